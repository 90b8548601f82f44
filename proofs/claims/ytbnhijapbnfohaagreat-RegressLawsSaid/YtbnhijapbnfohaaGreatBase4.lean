/- Contracts of the given program's functions, and an abstract layer over the model; no condition. -/
import Derived.Shelf.SlSortCmp.NoneTotal
import Derived.Ground.SlsfProg
import Derived.Test.YtbnhijapbnfohaaGreatBase3
set_option linter.unusedVariables false
set_option linter.unusedSimpArgs false
namespace Go.Proofs.YtbnhijapbnfohaaGreat
open Go.Ahl
def c_both1 : CCode := .seq (.ops [⟨some 2, .box (.tmp 0), none, []⟩, ⟨some 3, .box (.tmp 1), none, []⟩, ⟨some 4, .move (.lit (.int .i64 0)), none, []⟩]) (.seq (.ops [⟨some 5, .faddr 0 (.tmp 2), none, []⟩, ⟨some 6, .load none (.tmp 5), none, []⟩, ⟨some 7, .faddr 0 (.tmp 3), none, []⟩, ⟨some 8, .load none (.tmp 7), none, []⟩, ⟨some 9, .bin .sub .none (.tmp 6) (.tmp 8), none, []⟩, ⟨some 4, .move (.tmp 9), none, []⟩]) .ret)
set_option maxRecDepth 20000 in
theorem both1_spec (a b : FLit) (σ : Store) (ha : litOk a) (hb : litOk b) : ACalls Tryz.prog 108 [.agg (encLit a), .agg (encLit b)] σ (isR (.int .i64 (a.fact - b.fact)) σ) := by
  refine ACalls.intro (rs := [(.tmp 4)]) (by kernel_rfl) { own := [], ghosts := [] } Tryz.func108 (c := Tryz.f108.body.getD .skip) (by kernel_rfl) (by decide) (by rw [show Tryz.f108.ntmps = 10 by kernel_rfl]; exact Nat.le_of_ble_eq_true rfl) (by kernel_rfl) ?_
  intro hσ hids
  rw [show comp Tryz.prog { own := [], ghosts := [] } (Tryz.f108.body.getD .skip) = c_both1 by kernel_rfl, show Tryz.f108.ntmps = 10 by kernel_rfl]
  unfold c_both1
  have hw : IntKind.i64.wrap (a.fact - b.fact) = a.fact - b.fact := wrap_ok (by have := ha.1; have := ha.2; have := hb.1; have := hb.2; omega)
  simp only [go_sem, Int.reduceToNat, Int.reduceLE, Int.reduceLT, Nat.reduceBEq, Nat.reduceLT, Nat.reduceAdd, Nat.reduceLeDiff, encLit, hw]
  first | exact rtw (v := .int .i64 _) wkS ⟨rfl, rfl⟩ | exact rtw0 (v := .int .i64 _) wkS ⟨rfl, rfl⟩
def c_both2 : CCode := .seq (.ops [⟨some 2, .box (.tmp 0), none, []⟩, ⟨some 3, .box (.tmp 1), none, []⟩, ⟨some 4, .move (.lit (.bool false)), none, []⟩]) (.seq (.ops [⟨some 5, .faddr 0 (.tmp 2), none, []⟩, ⟨some 6, .load none (.tmp 5), none, []⟩, ⟨some 7, .faddr 0 (.tmp 3), none, []⟩, ⟨some 8, .load none (.tmp 7), none, []⟩, ⟨some 9, .bin .eql .none (.tmp 6) (.tmp 8), none, []⟩, ⟨some 10, .move (.tmp 9), none, []⟩, ⟨some 11, .faddr 1 (.tmp 2), some (some 10, true), []⟩, ⟨some 12, .load none (.tmp 11), some (some 10, true), []⟩, ⟨some 13, .faddr 1 (.tmp 3), some (some 10, true), []⟩, ⟨some 14, .load none (.tmp 13), some (some 10, true), []⟩, ⟨some 15, .bin .neq .bool (.tmp 12) (.tmp 14), some (some 10, true), []⟩, ⟨some 16, .pick (.tmp 10) (.tmp 15) (.lit (.bool false)), none, []⟩, ⟨some 4, .move (.tmp 16), none, []⟩]) .ret)
set_option maxRecDepth 20000 in
theorem both2_spec (a b : FLit) (σ : Store) : ACalls Tryz.prog 109 [.agg (encLit a), .agg (encLit b)] σ (isR (.bool (a.fact == b.fact && !(a.neg == b.neg))) σ) := by
  refine ACalls.intro (rs := [(.tmp 4)]) (by kernel_rfl) { own := [], ghosts := [] } Tryz.func109 (c := Tryz.f109.body.getD .skip) (by kernel_rfl) (by decide) (by rw [show Tryz.f109.ntmps = 17 by kernel_rfl]; exact Nat.le_of_ble_eq_true rfl) (by kernel_rfl) ?_
  intro hσ hids
  rw [show comp Tryz.prog { own := [], ghosts := [] } (Tryz.f109.body.getD .skip) = c_both2 by kernel_rfl, show Tryz.f109.ntmps = 17 by kernel_rfl]
  unfold c_both2
  cases h1 : (a.fact == b.fact)
  · simp only [go_sem, Int.reduceToNat, Int.reduceLE, Int.reduceLT, Nat.reduceBEq, Nat.reduceLT, Nat.reduceAdd, Nat.reduceLeDiff, encLit, h1]
    first | exact rtw (v := .bool _) wkS ⟨rfl, rfl⟩ | exact rtw0 (v := .bool _) wkS ⟨rfl, rfl⟩
  · simp only [go_sem, Int.reduceToNat, Int.reduceLE, Int.reduceLT, Nat.reduceBEq, Nat.reduceLT, Nat.reduceAdd, Nat.reduceLeDiff, encLit, h1]
    first | exact rtw (v := .bool _) wkS ⟨rfl, rfl⟩ | exact rtw0 (v := .bool _) wkS ⟨rfl, rfl⟩
def mergeF : Nat → List FLit → List FLit → Option (List FLit)
  | 0, _, _ => some []
  | _ + 1, [], [] => some []
  | n + 1, x :: a, [] => (mergeF n a []).map (x :: ·)
  | n + 1, [], y :: b => (mergeF n [] b).map (y :: ·)
  | n + 1, x :: a, y :: b =>
    if x.fact < y.fact then (mergeF n a (y :: b)).map (x :: ·)
    else if y.fact < x.fact then (mergeF n (x :: a) b).map (y :: ·)
    else if x.neg = y.neg then (mergeF n a b).map (x :: ·) else none
/-- The conjunction of two conditions. -/
def bothL (a b : List FLit) : Option (List FLit) := mergeF (a.length + b.length) a b
def resB : Option (List FLit) → AV
  | some l => .tuple [.slice .unk (l.map encLit), .bool true]
  | none => .tuple [.slice .nil [], .bool false]
theorem map_snoc (o : Option (List FLit)) (out : List FLit) (x : FLit) : (o.map (x :: ·)).map (out ++ ·) = o.map ((out ++ [x]) ++ ·) := by
  cases o <;> simp
def d_merged_0 : List COp := [⟨some 30, .move (.tmp 1), none, []⟩, ⟨some 31, .blen 1 (.tmp 30), none, [0]⟩, ⟨some 32, .bin .eql .none (.tmp 31) (.lit (.int .i64 0)), none, [1]⟩, ⟨some 33, .move (.tmp 32), none, [2]⟩, ⟨some 34, .move (.tmp 0), some (some 33, false), [3]⟩, ⟨some 35, .blen 1 (.tmp 34), some (some 33, false), [4, 3]⟩, ⟨some 36, .bin .gtr .none (.tmp 35) (.lit (.int .i64 0)), some (some 33, false), [5, 3]⟩, ⟨some 37, .move (.tmp 36), some (some 33, false), [6, 3, 3]⟩, ⟨some 38, .move (.tmp 2), some (some 37, true), [7]⟩, ⟨some 39, .move (.tmp 0), some (some 37, true), [7]⟩, ⟨some 40, .iaddr 2 (.tmp 39) (.lit (.int .i64 0)), some (some 37, true), [9, 7]⟩, ⟨some 41, .load (some 2) (.tmp 40), some (some 37, true), [10, 7]⟩, ⟨some 42, .move (.tmp 1), some (some 37, true), [7]⟩, ⟨some 43, .iaddr 2 (.tmp 42) (.lit (.int .i64 0)), some (some 37, true), [12, 7]⟩, ⟨some 44, .load (some 2) (.tmp 43), some (some 37, true), [13, 7]⟩, ⟨some 45, .call (.tmp 38) [.tmp 41, .tmp 44], some (some 37, true), [8, 11, 14, 7, 7]⟩, ⟨some 46, .bin .lss .none (.tmp 45) (.lit (.int .i64 0)), some (some 37, true), [15, 7]⟩, ⟨some 47, .pick (.tmp 37) (.tmp 46) (.lit (.bool false)), some (some 33, false), [7, 16, 3]⟩, ⟨some 48, .move (.tmp 47), some (some 33, false), [17, 15, 3]⟩, ⟨some 49, .move (.tmp 3), some (some 48, true), [18]⟩, ⟨some 50, .move (.tmp 0), some (some 48, true), [18]⟩, ⟨some 51, .iaddr 2 (.tmp 50) (.lit (.int .i64 0)), some (some 48, true), [20, 18]⟩, ⟨some 52, .load (some 2) (.tmp 51), some (some 48, true), [21, 18]⟩, ⟨some 53, .move (.tmp 1), some (some 48, true), [18]⟩, ⟨some 54, .iaddr 2 (.tmp 53) (.lit (.int .i64 0)), some (some 48, true), [23, 18]⟩, ⟨some 55, .load (some 2) (.tmp 54), some (some 48, true), [24, 18]⟩, ⟨some 56, .call (.tmp 49) [.tmp 52, .tmp 55], some (some 48, true), [19, 22, 25, 18, 18]⟩, ⟨some 57, .un .not (.tmp 56), some (some 48, true), [26, 18]⟩, ⟨some 58, .pick (.tmp 48) (.tmp 57) (.lit (.bool false)), some (some 33, false), [18, 27, 3]⟩, ⟨some 59, .pick (.tmp 33) (.lit (.bool true)) (.tmp 58), none, [3, 28]⟩, ⟨some 29, .move (.tmp 59), none, [29, 26]⟩]
theorem dr_merged_0 (P : Program) (nt n0 : Nat) (Q : Post) (s : Slots) (σ : Store) : wpc P nt n0 (.draw d_merged_0) Q s σ = aOpsD P nt [⟨some 30, .move (.tmp 1), none, []⟩, ⟨some 31, .blen 1 (.tmp 30), none, [0]⟩, ⟨some 32, .bin .eql .none (.tmp 31) (.lit (.int .i64 0)), none, [1]⟩, ⟨some 33, .move (.tmp 32), none, [2]⟩, ⟨some 34, .move (.tmp 0), some (some 33, false), [3]⟩, ⟨some 35, .blen 1 (.tmp 34), some (some 33, false), [4, 3]⟩, ⟨some 36, .bin .gtr .none (.tmp 35) (.lit (.int .i64 0)), some (some 33, false), [5, 3]⟩, ⟨some 37, .move (.tmp 36), some (some 33, false), [6, 3, 3]⟩, ⟨some 38, .move (.tmp 2), some (some 37, true), [7]⟩, ⟨some 39, .move (.tmp 0), some (some 37, true), [7]⟩, ⟨some 40, .iaddr 2 (.tmp 39) (.lit (.int .i64 0)), some (some 37, true), [9, 7]⟩, ⟨some 41, .load (some 2) (.tmp 40), some (some 37, true), [10, 7]⟩, ⟨some 42, .move (.tmp 1), some (some 37, true), [7]⟩, ⟨some 43, .iaddr 2 (.tmp 42) (.lit (.int .i64 0)), some (some 37, true), [12, 7]⟩, ⟨some 44, .load (some 2) (.tmp 43), some (some 37, true), [13, 7]⟩, ⟨some 45, .call (.tmp 38) [.tmp 41, .tmp 44], some (some 37, true), [8, 11, 14, 7, 7]⟩, ⟨some 46, .bin .lss .none (.tmp 45) (.lit (.int .i64 0)), some (some 37, true), [15, 7]⟩, ⟨some 47, .pick (.tmp 37) (.tmp 46) (.lit (.bool false)), some (some 33, false), [7, 16, 3]⟩, ⟨some 48, .move (.tmp 47), some (some 33, false), [17, 15, 3]⟩, ⟨some 49, .move (.tmp 3), some (some 48, true), [18]⟩, ⟨some 50, .move (.tmp 0), some (some 48, true), [18]⟩, ⟨some 51, .iaddr 2 (.tmp 50) (.lit (.int .i64 0)), some (some 48, true), [20, 18]⟩, ⟨some 52, .load (some 2) (.tmp 51), some (some 48, true), [21, 18]⟩, ⟨some 53, .move (.tmp 1), some (some 48, true), [18]⟩, ⟨some 54, .iaddr 2 (.tmp 53) (.lit (.int .i64 0)), some (some 48, true), [23, 18]⟩, ⟨some 55, .load (some 2) (.tmp 54), some (some 48, true), [24, 18]⟩, ⟨some 56, .call (.tmp 49) [.tmp 52, .tmp 55], some (some 48, true), [19, 22, 25, 18, 18]⟩, ⟨some 57, .un .not (.tmp 56), some (some 48, true), [26, 18]⟩, ⟨some 58, .pick (.tmp 48) (.tmp 57) (.lit (.bool false)), some (some 33, false), [18, 27, 3]⟩, ⟨some 59, .pick (.tmp 33) (.lit (.bool true)) (.tmp 58), none, [3, 28]⟩, ⟨some 29, .move (.tmp 59), none, [29, 26]⟩] (Q .normal) s σ := wpc_draw _ (by decide)
def d_merged_1 : List COp := [⟨some 60, .move (.tmp 10), none, []⟩, ⟨some 61, .move (.tmp 0), none, []⟩, ⟨some 62, .iaddr 2 (.tmp 61) (.lit (.int .i64 0)), none, [1]⟩, ⟨some 63, .load (some 2) (.tmp 62), none, [2]⟩, ⟨some 64, .bslice 2 [.tmp 63] false, none, [3]⟩, ⟨some 65, .bappend 2 16 (.tmp 60) (.tmp 64) false, none, [0, 4]⟩, ⟨some 66, .move (.tmp 0), none, []⟩, ⟨some 67, .slc 2 (.tmp 66) (some (.lit (.int .i64 1))) none none, none, [6]⟩, ⟨some 10, .move (.tmp 65), none, [5, 5, 0, 1, 2, 3, 4, 5]⟩, ⟨some 0, .move (.tmp 67), none, [7, 8, 0, 1, 2, 3, 4, 5, 6, 7, 8]⟩]
theorem dr_merged_1 (P : Program) (nt n0 : Nat) (Q : Post) (s : Slots) (σ : Store) : wpc P nt n0 (.draw d_merged_1) Q s σ = aOpsD P nt [⟨some 60, .move (.tmp 10), none, []⟩, ⟨some 61, .move (.tmp 0), none, []⟩, ⟨some 62, .iaddr 2 (.tmp 61) (.lit (.int .i64 0)), none, [1]⟩, ⟨some 63, .load (some 2) (.tmp 62), none, [2]⟩, ⟨some 64, .bslice 2 [.tmp 63] false, none, [3]⟩, ⟨some 65, .bappend 2 16 (.tmp 60) (.tmp 64) false, none, [0, 4]⟩, ⟨some 66, .move (.tmp 0), none, []⟩, ⟨some 67, .slc 2 (.tmp 66) (some (.lit (.int .i64 1))) none none, none, [6]⟩, ⟨some 10, .move (.tmp 65), none, [5, 5, 0, 1, 2, 3, 4, 5]⟩, ⟨some 0, .move (.tmp 67), none, [7, 8, 0, 1, 2, 3, 4, 5, 6, 7, 8]⟩] (Q .normal) s σ := wpc_draw _ (by decide)
def d_merged_2 : List COp := [⟨some 69, .move (.tmp 0), none, []⟩, ⟨some 70, .blen 1 (.tmp 69), none, [0]⟩, ⟨some 71, .bin .eql .none (.tmp 70) (.lit (.int .i64 0)), none, [1]⟩, ⟨some 72, .move (.tmp 71), none, [2]⟩, ⟨some 73, .move (.tmp 2), some (some 72, false), [3]⟩, ⟨some 74, .move (.tmp 0), some (some 72, false), [3]⟩, ⟨some 75, .iaddr 2 (.tmp 74) (.lit (.int .i64 0)), some (some 72, false), [5, 3]⟩, ⟨some 76, .load (some 2) (.tmp 75), some (some 72, false), [6, 3]⟩, ⟨some 77, .move (.tmp 1), some (some 72, false), [3]⟩, ⟨some 78, .iaddr 2 (.tmp 77) (.lit (.int .i64 0)), some (some 72, false), [8, 3]⟩, ⟨some 79, .load (some 2) (.tmp 78), some (some 72, false), [9, 3]⟩, ⟨some 80, .call (.tmp 73) [.tmp 76, .tmp 79], some (some 72, false), [4, 7, 10, 3, 3]⟩, ⟨some 81, .bin .gtr .none (.tmp 80) (.lit (.int .i64 0)), some (some 72, false), [11, 3]⟩, ⟨some 82, .move (.tmp 81), some (some 72, false), [12, 11, 3]⟩, ⟨some 83, .move (.tmp 3), some (some 82, true), [13]⟩, ⟨some 84, .move (.tmp 0), some (some 82, true), [13]⟩, ⟨some 85, .iaddr 2 (.tmp 84) (.lit (.int .i64 0)), some (some 82, true), [15, 13]⟩, ⟨some 86, .load (some 2) (.tmp 85), some (some 82, true), [16, 13]⟩, ⟨some 87, .move (.tmp 1), some (some 82, true), [13]⟩, ⟨some 88, .iaddr 2 (.tmp 87) (.lit (.int .i64 0)), some (some 82, true), [18, 13]⟩, ⟨some 89, .load (some 2) (.tmp 88), some (some 82, true), [19, 13]⟩, ⟨some 90, .call (.tmp 83) [.tmp 86, .tmp 89], some (some 82, true), [14, 17, 20, 13, 13]⟩, ⟨some 91, .un .not (.tmp 90), some (some 82, true), [21, 13]⟩, ⟨some 92, .pick (.tmp 82) (.tmp 91) (.lit (.bool false)), some (some 72, false), [13, 22, 3]⟩, ⟨some 93, .pick (.tmp 72) (.lit (.bool true)) (.tmp 92), none, [3, 23]⟩, ⟨some 68, .move (.tmp 93), none, [24, 21]⟩]
theorem dr_merged_2 (P : Program) (nt n0 : Nat) (Q : Post) (s : Slots) (σ : Store) : wpc P nt n0 (.draw d_merged_2) Q s σ = aOpsD P nt [⟨some 69, .move (.tmp 0), none, []⟩, ⟨some 70, .blen 1 (.tmp 69), none, [0]⟩, ⟨some 71, .bin .eql .none (.tmp 70) (.lit (.int .i64 0)), none, [1]⟩, ⟨some 72, .move (.tmp 71), none, [2]⟩, ⟨some 73, .move (.tmp 2), some (some 72, false), [3]⟩, ⟨some 74, .move (.tmp 0), some (some 72, false), [3]⟩, ⟨some 75, .iaddr 2 (.tmp 74) (.lit (.int .i64 0)), some (some 72, false), [5, 3]⟩, ⟨some 76, .load (some 2) (.tmp 75), some (some 72, false), [6, 3]⟩, ⟨some 77, .move (.tmp 1), some (some 72, false), [3]⟩, ⟨some 78, .iaddr 2 (.tmp 77) (.lit (.int .i64 0)), some (some 72, false), [8, 3]⟩, ⟨some 79, .load (some 2) (.tmp 78), some (some 72, false), [9, 3]⟩, ⟨some 80, .call (.tmp 73) [.tmp 76, .tmp 79], some (some 72, false), [4, 7, 10, 3, 3]⟩, ⟨some 81, .bin .gtr .none (.tmp 80) (.lit (.int .i64 0)), some (some 72, false), [11, 3]⟩, ⟨some 82, .move (.tmp 81), some (some 72, false), [12, 11, 3]⟩, ⟨some 83, .move (.tmp 3), some (some 82, true), [13]⟩, ⟨some 84, .move (.tmp 0), some (some 82, true), [13]⟩, ⟨some 85, .iaddr 2 (.tmp 84) (.lit (.int .i64 0)), some (some 82, true), [15, 13]⟩, ⟨some 86, .load (some 2) (.tmp 85), some (some 82, true), [16, 13]⟩, ⟨some 87, .move (.tmp 1), some (some 82, true), [13]⟩, ⟨some 88, .iaddr 2 (.tmp 87) (.lit (.int .i64 0)), some (some 82, true), [18, 13]⟩, ⟨some 89, .load (some 2) (.tmp 88), some (some 82, true), [19, 13]⟩, ⟨some 90, .call (.tmp 83) [.tmp 86, .tmp 89], some (some 82, true), [14, 17, 20, 13, 13]⟩, ⟨some 91, .un .not (.tmp 90), some (some 82, true), [21, 13]⟩, ⟨some 92, .pick (.tmp 82) (.tmp 91) (.lit (.bool false)), some (some 72, false), [13, 22, 3]⟩, ⟨some 93, .pick (.tmp 72) (.lit (.bool true)) (.tmp 92), none, [3, 23]⟩, ⟨some 68, .move (.tmp 93), none, [24, 21]⟩] (Q .normal) s σ := wpc_draw _ (by decide)
def d_merged_3 : List COp := [⟨some 94, .move (.tmp 10), none, []⟩, ⟨some 95, .move (.tmp 1), none, []⟩, ⟨some 96, .iaddr 2 (.tmp 95) (.lit (.int .i64 0)), none, [1]⟩, ⟨some 97, .load (some 2) (.tmp 96), none, [2]⟩, ⟨some 98, .bslice 2 [.tmp 97] false, none, [3]⟩, ⟨some 99, .bappend 2 16 (.tmp 94) (.tmp 98) false, none, [0, 4]⟩, ⟨some 100, .move (.tmp 1), none, []⟩, ⟨some 101, .slc 2 (.tmp 100) (some (.lit (.int .i64 1))) none none, none, [6]⟩, ⟨some 10, .move (.tmp 99), none, [5, 5, 0, 1, 2, 3, 4, 5]⟩, ⟨some 1, .move (.tmp 101), none, [7, 8, 0, 1, 2, 3, 4, 5, 6, 7, 8]⟩]
theorem dr_merged_3 (P : Program) (nt n0 : Nat) (Q : Post) (s : Slots) (σ : Store) : wpc P nt n0 (.draw d_merged_3) Q s σ = aOpsD P nt [⟨some 94, .move (.tmp 10), none, []⟩, ⟨some 95, .move (.tmp 1), none, []⟩, ⟨some 96, .iaddr 2 (.tmp 95) (.lit (.int .i64 0)), none, [1]⟩, ⟨some 97, .load (some 2) (.tmp 96), none, [2]⟩, ⟨some 98, .bslice 2 [.tmp 97] false, none, [3]⟩, ⟨some 99, .bappend 2 16 (.tmp 94) (.tmp 98) false, none, [0, 4]⟩, ⟨some 100, .move (.tmp 1), none, []⟩, ⟨some 101, .slc 2 (.tmp 100) (some (.lit (.int .i64 1))) none none, none, [6]⟩, ⟨some 10, .move (.tmp 99), none, [5, 5, 0, 1, 2, 3, 4, 5]⟩, ⟨some 1, .move (.tmp 101), none, [7, 8, 0, 1, 2, 3, 4, 5, 6, 7, 8]⟩] (Q .normal) s σ := wpc_draw _ (by decide)
def d_merged_4 : List COp := [⟨some 103, .move (.tmp 3), none, []⟩, ⟨some 104, .move (.tmp 0), none, []⟩, ⟨some 105, .iaddr 2 (.tmp 104) (.lit (.int .i64 0)), none, [1]⟩, ⟨some 106, .load (some 2) (.tmp 105), none, [2]⟩, ⟨some 107, .move (.tmp 1), none, []⟩, ⟨some 108, .iaddr 2 (.tmp 107) (.lit (.int .i64 0)), none, [4]⟩, ⟨some 109, .load (some 2) (.tmp 108), none, [5]⟩, ⟨some 110, .call (.tmp 103) [.tmp 106, .tmp 109], none, [0, 3, 6]⟩, ⟨some 102, .move (.tmp 110), none, [7, 7]⟩]
theorem dr_merged_4 (P : Program) (nt n0 : Nat) (Q : Post) (s : Slots) (σ : Store) : wpc P nt n0 (.draw d_merged_4) Q s σ = aOpsD P nt [⟨some 103, .move (.tmp 3), none, []⟩, ⟨some 104, .move (.tmp 0), none, []⟩, ⟨some 105, .iaddr 2 (.tmp 104) (.lit (.int .i64 0)), none, [1]⟩, ⟨some 106, .load (some 2) (.tmp 105), none, [2]⟩, ⟨some 107, .move (.tmp 1), none, []⟩, ⟨some 108, .iaddr 2 (.tmp 107) (.lit (.int .i64 0)), none, [4]⟩, ⟨some 109, .load (some 2) (.tmp 108), none, [5]⟩, ⟨some 110, .call (.tmp 103) [.tmp 106, .tmp 109], none, [0, 3, 6]⟩, ⟨some 102, .move (.tmp 110), none, [7, 7]⟩] (Q .normal) s σ := wpc_draw _ (by decide)
def d_merged_5 : List COp := [⟨some 19, .move (.tmp 10), none, []⟩, ⟨some 20, .move (.tmp 0), none, []⟩, ⟨some 21, .iaddr 2 (.tmp 20) (.lit (.int .i64 0)), none, [1]⟩, ⟨some 22, .load (some 2) (.tmp 21), none, [2]⟩, ⟨some 23, .bslice 2 [.tmp 22] false, none, [3]⟩, ⟨some 24, .bappend 2 16 (.tmp 19) (.tmp 23) false, none, [0, 4]⟩, ⟨some 25, .move (.tmp 0), none, []⟩, ⟨some 26, .slc 2 (.tmp 25) (some (.lit (.int .i64 1))) none none, none, [6]⟩, ⟨some 27, .move (.tmp 1), none, []⟩, ⟨some 28, .slc 2 (.tmp 27) (some (.lit (.int .i64 1))) none none, none, [8]⟩, ⟨some 10, .move (.tmp 24), none, [5, 5, 0, 1, 2, 3, 4, 5]⟩, ⟨some 0, .move (.tmp 26), none, [7, 10, 0, 1, 2, 3, 4, 5, 6, 7, 10]⟩, ⟨some 1, .move (.tmp 28), none, [9, 11, 0, 1, 2, 3, 4, 5, 6, 7, 8, 9, 10, 11]⟩]
theorem dr_merged_5 (P : Program) (nt n0 : Nat) (Q : Post) (s : Slots) (σ : Store) : wpc P nt n0 (.draw d_merged_5) Q s σ = aOpsD P nt [⟨some 19, .move (.tmp 10), none, []⟩, ⟨some 20, .move (.tmp 0), none, []⟩, ⟨some 21, .iaddr 2 (.tmp 20) (.lit (.int .i64 0)), none, [1]⟩, ⟨some 22, .load (some 2) (.tmp 21), none, [2]⟩, ⟨some 23, .bslice 2 [.tmp 22] false, none, [3]⟩, ⟨some 24, .bappend 2 16 (.tmp 19) (.tmp 23) false, none, [0, 4]⟩, ⟨some 25, .move (.tmp 0), none, []⟩, ⟨some 26, .slc 2 (.tmp 25) (some (.lit (.int .i64 1))) none none, none, [6]⟩, ⟨some 27, .move (.tmp 1), none, []⟩, ⟨some 28, .slc 2 (.tmp 27) (some (.lit (.int .i64 1))) none none, none, [8]⟩, ⟨some 10, .move (.tmp 24), none, [5, 5, 0, 1, 2, 3, 4, 5]⟩, ⟨some 0, .move (.tmp 26), none, [7, 10, 0, 1, 2, 3, 4, 5, 6, 7, 10]⟩, ⟨some 1, .move (.tmp 28), none, [9, 11, 0, 1, 2, 3, 4, 5, 6, 7, 8, 9, 10, 11]⟩] (Q .normal) s σ := wpc_draw _ (by decide)
def c_merged : CCode := .seq (.ops [⟨some 8, .move (.lit (.slice .nil [])), none, []⟩, ⟨some 9, .move (.lit (.bool false)), none, []⟩]) (.seq (.ops [⟨some 10, .move (.lit (.slice .nil [])), none, []⟩]) (.seq (.block 0 (.loop (.seq (.seq (.ops [⟨some 11, .move (.tmp 0), none, []⟩, ⟨some 12, .blen 1 (.tmp 11), none, []⟩, ⟨some 13, .bin .gtr .none (.tmp 12) (.lit (.int .i64 0)), none, []⟩, ⟨some 14, .move (.tmp 13), none, []⟩, ⟨some 15, .move (.tmp 1), some (some 14, false), []⟩, ⟨some 16, .blen 1 (.tmp 15), some (some 14, false), []⟩, ⟨some 17, .bin .gtr .none (.tmp 16) (.lit (.int .i64 0)), some (some 14, false), []⟩, ⟨some 18, .pick (.tmp 14) (.lit (.bool true)) (.tmp 17), none, []⟩]) (.cond (.tmp 18) .skip (.exit 0))) (.block 1 (.block 2 (.seq (.draw d_merged_0) (.cond (.tmp 29) (.draw d_merged_1) (.seq (.draw d_merged_2) (.cond (.tmp 68) (.draw d_merged_3) (.seq (.draw d_merged_4) (.cond (.tmp 102) (.seq (.ops [⟨some 8, .move (.lit (.slice .nil [])), none, []⟩, ⟨some 9, .move (.lit (.bool false)), none, []⟩]) .ret) (.draw d_merged_5)))))))))))) (.seq (.ops [⟨some 111, .move (.tmp 10), none, []⟩, ⟨some 8, .move (.tmp 111), none, []⟩, ⟨some 9, .move (.lit (.bool true)), none, []⟩]) .ret)))
set_option maxRecDepth 20000 in
theorem merged_spec (a b : List FLit) (tok tok' : Tok) (σ : Store) (hla : a.length ≤ 1073741824) (hlb : b.length ≤ 1073741824) (ha : ∀ x ∈ a, litOk x) (hb : ∀ x ∈ b, litOk x) :
    ACalls Tryz.prog 107 [.slice tok (a.map encLit), .slice tok' (b.map encLit), .func 108 [], .func 109 []] σ (isR (resB (bothL a b)) σ) := by
  refine ACalls.intro (rs := [(.tmp 8), (.tmp 9)]) (by kernel_rfl) { own := [], ghosts := [] } Tryz.func107 (c := Tryz.f107.body.getD .skip) (by kernel_rfl) (by decide) (by rw [show Tryz.f107.ntmps = 112 by kernel_rfl]; exact Nat.le_of_ble_eq_true rfl) (by kernel_rfl) ?_
  intro hσ hids
  rw [show comp Tryz.prog { own := [], ghosts := [] } (Tryz.f107.body.getD .skip) = c_merged by kernel_rfl, show Tryz.f107.ntmps = 112 by kernel_rfl]
  unfold c_merged
  have hia : Ids σ.length (.slice tok (a.map encLit)) := hids _ (by simp)
  have hib : Ids σ.length (.slice tok' (b.map encLit)) := hids _ (by simp)
  have hs1 : ∀ n, IdsS (σ ++ [AObj.grow 2 n]).length (σ ++ [AObj.grow 2 n]) := fun n => idsS_push hσ trivial
  simp only [go_sem, Int.reduceToNat, Int.reduceLE, Int.reduceLT, Nat.reduceBEq, Nat.reduceLT, Nat.reduceAdd, Nat.reduceLeDiff, dr_merged_0, dr_merged_1, dr_merged_2, dr_merged_3, dr_merged_4, dr_merged_5]
  refine wpc_while (fun (q : Nat × List FLit × List FLit × List FLit) => [(10, .slice (.grow σ.length) (q.2.1.map encLit)), (0, .slice .unk (q.2.2.1.map encLit)), (1, .slice .unk (q.2.2.2.map encLit)), (2, .func 108 []), (3, .func 109 [])])
    (fun q => σ ++ [.grow 2 q.2.1.length]) (fun q => q.2.2.1.length + q.2.2.2.length ≤ q.1 ∧ q.2.1.length + q.2.2.1.length + q.2.2.2.length ≤ a.length + b.length ∧ (∀ x ∈ q.2.2.1, litOk x) ∧ (∀ x ∈ q.2.2.2, litOk x) ∧ bothL a b = (mergeF q.1 q.2.2.1 q.2.2.2).map (q.2.1 ++ ·))
    (fun q => q.1) (a.length + b.length, [], a, b) ⟨Nat.le_refl _, by simp, ha, hb, by simp [bothL]⟩ ?_ ?_
  · exact (.begin0 10 2 _ (Nat.le_refl _) tellT hσ)
  rintro ⟨n, out, p, q⟩ ⟨hn, hlen, hp, hq, hv⟩ K hK hE hR
  dsimp only at hn hlen hp hq hv ⊢
  have enc1 : ∀ x : FLit, [[AV.int .i64 x.fact, AV.bool x.neg]] = [x].map encLit := fun x => rfl
  have hbig : bigLen (out.length + 1) 16 := big_ok (by omega) (by omega)
  match p, q, n, hn, hlen, hp, hq, hv with
  | [], [], n, _, _, _, _, hv =>
    have hv : bothL a b = some out := by rw [hv]; cases n <;> simp [mergeF]
    simp only [go_sem, Int.reduceToNat, Int.reduceLE, Int.reduceLT, Nat.reduceBEq, Nat.reduceLT, Nat.reduceAdd, Nat.reduceLeDiff, dr_merged_0, dr_merged_1, dr_merged_2, dr_merged_3, dr_merged_4, dr_merged_5, Int.lt_irrefl, gt_iff_lt, Int.natCast_zero, hE]
    first | exact rtl (.slice .unk (out.map encLit)) (.bool true) ⟨by rw [hv]; rfl, rfl⟩ | exact rtl0 (.slice .unk (out.map encLit)) (.bool true) ⟨by rw [hv]; rfl, rfl⟩
  | x :: p, [], n + 1, hn, hlen, hp, hq, hv =>
    have h1 : ((p.length + 1 : Nat) : Int) > 0 := by omega
    have hc : out.map encLit ++ [[AV.int .i64 x.fact, AV.bool x.neg]] = (out ++ [x]).map encLit := by simp [encLit]
    simp only [go_sem, Int.reduceToNat, Int.reduceLE, Int.reduceLT, Nat.reduceBEq, Nat.reduceLT, Nat.reduceAdd, Nat.reduceLeDiff, dr_merged_0, dr_merged_1, dr_merged_2, dr_merged_3, dr_merged_4, dr_merged_5, h1, encLit, hbig, hc]
    refine hK _ _ (n, out ++ [x], p, []) ⟨by simp at hn ⊢; omega, by simp at hlen ⊢; omega, fun y hy => hp y (List.mem_cons_of_mem _ hy), hq, by rw [hv, mergeF, map_snoc]⟩ (by simp only []; omega) ?_
    simp only [List.length_append, List.length_cons, List.length_nil, Nat.reduceAdd]
    exact (by (try dsimp only); first | exact ghL (hs1 (out.length + 1)) | exact ghL0 (hs1 (out.length + 1)))
  | [], y :: q, n + 1, hn, hlen, hp, hq, hv =>
    have h1 : ((q.length + 1 : Nat) : Int) > 0 := by omega
    have h2 : (((q.length + 1 : Nat) : Int) == 0) = false := by simp; omega
    have hc : out.map encLit ++ [[AV.int .i64 y.fact, AV.bool y.neg]] = (out ++ [y]).map encLit := by simp [encLit]
    simp only [go_sem, Int.reduceToNat, Int.reduceLE, Int.reduceLT, Nat.reduceBEq, Nat.reduceLT, Nat.reduceAdd, Nat.reduceLeDiff, dr_merged_0, dr_merged_1, dr_merged_2, dr_merged_3, dr_merged_4, dr_merged_5, h1, h2, encLit, hbig, hc, Int.lt_irrefl, gt_iff_lt]
    refine hK _ _ (n, out ++ [y], [], q) ⟨by simp at hn ⊢; omega, by simp at hlen ⊢; omega, hp, fun x hx => hq x (List.mem_cons_of_mem _ hx), by rw [hv, mergeF, map_snoc]⟩ (by simp only []; omega) ?_
    simp only [List.length_append, List.length_cons, List.length_nil, Nat.reduceAdd]
    exact (by (try dsimp only); first | exact ghL (hs1 (out.length + 1)) | exact ghL0 (hs1 (out.length + 1)))
  | x :: p, y :: q, n + 1, hn, hlen, hp, hq, hv =>
    have h1 : ((p.length + 1 : Nat) : Int) > 0 := by omega
    have h2 : (((q.length + 1 : Nat) : Int) == 0) = false := by simp; omega
    have h3 : (((p.length + 1 : Nat) : Int) == 0) = false := by simp; omega
    have hx := hp x List.mem_cons_self
    have hy := hq y List.mem_cons_self
    have hc : out.map encLit ++ [[AV.int .i64 x.fact, AV.bool x.neg]] = (out ++ [x]).map encLit := by simp [encLit]
    have hc' : out.map encLit ++ [[AV.int .i64 y.fact, AV.bool y.neg]] = (out ++ [y]).map encLit := by simp [encLit]
    rw [mergeF] at hv
    simp only [go_sem, Int.reduceToNat, Int.reduceLE, Int.reduceLT, Nat.reduceBEq, Nat.reduceLT, Nat.reduceAdd, Nat.reduceLeDiff, dr_merged_0, dr_merged_1, dr_merged_2, dr_merged_3, dr_merged_4, dr_merged_5, h1, h2, encLit]
    refine ⟨_, both1_spec x y _ hx hy, ?_⟩
    by_cases c1 : x.fact - y.fact < 0
    · simp only [go_sem, Int.reduceToNat, Int.reduceLE, Int.reduceLT, Nat.reduceBEq, Nat.reduceLT, Nat.reduceAdd, Nat.reduceLeDiff, dr_merged_0, dr_merged_1, dr_merged_2, dr_merged_3, dr_merged_4, dr_merged_5, c1, encLit]
      refine ⟨_, both2_spec x y _, ?_⟩
      have c2 : (x.fact == y.fact) = false := by simp; omega
      simp only [go_sem, Int.reduceToNat, Int.reduceLE, Int.reduceLT, Nat.reduceBEq, Nat.reduceLT, Nat.reduceAdd, Nat.reduceLeDiff, dr_merged_0, dr_merged_1, dr_merged_2, dr_merged_3, dr_merged_4, dr_merged_5, c2, encLit, Bool.false_and, hbig, hc]
      rw [if_pos (by omega)] at hv
      refine hK _ _ (n, out ++ [x], p, y :: q) ⟨by simp at hn ⊢; omega, by simp at hlen ⊢; omega, fun z hz => hp z (List.mem_cons_of_mem _ hz), hq, by rw [hv, map_snoc]⟩ (by simp only []; omega) ?_
      simp only [List.length_append, List.length_cons, List.length_nil, Nat.reduceAdd]
      exact (by (try dsimp only); first | exact ghL (hs1 (out.length + 1)) | exact ghL0 (hs1 (out.length + 1)))
    rw [if_neg (by omega)] at hv
    simp only [go_sem, Int.reduceToNat, Int.reduceLE, Int.reduceLT, Nat.reduceBEq, Nat.reduceLT, Nat.reduceAdd, Nat.reduceLeDiff, dr_merged_0, dr_merged_1, dr_merged_2, dr_merged_3, dr_merged_4, dr_merged_5, c1, h3, encLit]
    refine ⟨_, both1_spec x y _ hx hy, ?_⟩
    by_cases c3 : x.fact - y.fact > 0
    · simp only [go_sem, Int.reduceToNat, Int.reduceLE, Int.reduceLT, Nat.reduceBEq, Nat.reduceLT, Nat.reduceAdd, Nat.reduceLeDiff, dr_merged_0, dr_merged_1, dr_merged_2, dr_merged_3, dr_merged_4, dr_merged_5, c3, encLit]
      refine ⟨_, both2_spec x y _, ?_⟩
      have c2 : (x.fact == y.fact) = false := by simp; omega
      simp only [go_sem, Int.reduceToNat, Int.reduceLE, Int.reduceLT, Nat.reduceBEq, Nat.reduceLT, Nat.reduceAdd, Nat.reduceLeDiff, dr_merged_0, dr_merged_1, dr_merged_2, dr_merged_3, dr_merged_4, dr_merged_5, c2, encLit, Bool.false_and, hbig, hc']
      rw [if_pos (by omega)] at hv
      refine hK _ _ (n, out ++ [y], x :: p, q) ⟨by simp at hn ⊢; omega, by simp at hlen ⊢; omega, hp, fun z hz => hq z (List.mem_cons_of_mem _ hz), by rw [hv, map_snoc]⟩ (by simp only []; omega) ?_
      simp only [List.length_append, List.length_cons, List.length_nil, Nat.reduceAdd]
      exact (by (try dsimp only); first | exact ghL (hs1 (out.length + 1)) | exact ghL0 (hs1 (out.length + 1)))
    rw [if_neg (by omega)] at hv
    have c2 : (x.fact == y.fact) = true := by simp; omega
    simp only [go_sem, Int.reduceToNat, Int.reduceLE, Int.reduceLT, Nat.reduceBEq, Nat.reduceLT, Nat.reduceAdd, Nat.reduceLeDiff, dr_merged_0, dr_merged_1, dr_merged_2, dr_merged_3, dr_merged_4, dr_merged_5, c3, encLit]
    refine ⟨_, both2_spec x y _, ?_⟩
    by_cases c4 : x.neg = y.neg
    · have c4' : (x.neg == y.neg) = true := by simpa using c4
      simp only [go_sem, Int.reduceToNat, Int.reduceLE, Int.reduceLT, Nat.reduceBEq, Nat.reduceLT, Nat.reduceAdd, Nat.reduceLeDiff, dr_merged_0, dr_merged_1, dr_merged_2, dr_merged_3, dr_merged_4, dr_merged_5, c2, c4', hbig, hc, encLit]
      rw [if_pos c4] at hv
      refine hK _ _ (n, out ++ [x], p, q) ⟨by simp at hn ⊢; omega, by simp at hlen ⊢; omega, fun z hz => hp z (List.mem_cons_of_mem _ hz), fun z hz => hq z (List.mem_cons_of_mem _ hz), by rw [hv, map_snoc]⟩ (by simp only []; omega) ?_
      simp only [List.length_append, List.length_cons, List.length_nil, Nat.reduceAdd]
      exact (by (try dsimp only); first | exact ghL (hs1 (out.length + 1)) | exact ghL0 (hs1 (out.length + 1)))
    · have c4' : (x.neg == y.neg) = false := by simpa using c4
      simp only [go_sem, Int.reduceToNat, Int.reduceLE, Int.reduceLT, Nat.reduceBEq, Nat.reduceLT, Nat.reduceAdd, Nat.reduceLeDiff, dr_merged_0, dr_merged_1, dr_merged_2, dr_merged_3, dr_merged_4, dr_merged_5, c2, c4', hR]
      rw [if_neg c4] at hv
      first | exact rtl (.slice .nil []) (.bool false) ⟨by rw [hv]; rfl, rfl⟩ | exact rtl0 (.slice .nil []) (.bool false) ⟨by rw [hv]; rfl, rfl⟩
  | x :: p, _, 0, hn, _, _, _, _ => simp at hn
  | _, y :: q, 0, hn, _, _, _, _ => simp at hn
def c_both : CCode := .seq (.ops [⟨some 4, .move (.lit (.slice .nil [])), none, []⟩, ⟨some 5, .move (.lit (.bool false)), none, []⟩]) (.seq (.ops [⟨some 6, .move (.tmp 0), none, []⟩, ⟨some 7, .move (.tmp 1), none, []⟩, ⟨some 8, .call (.lit (.func 107 [])) [.tmp 6, .tmp 7, .lit (.func 108 []), .lit (.func 109 [])], none, []⟩, ⟨some 9, .extract (.tmp 8) 0, none, []⟩, ⟨some 10, .extract (.tmp 8) 1, none, []⟩, ⟨some 4, .move (.tmp 9), none, []⟩, ⟨some 5, .move (.tmp 10), none, []⟩]) .ret)
set_option maxRecDepth 20000 in
theorem both_spec (a b : List FLit) (tok tok' : Tok) (σ : Store) (hla : a.length ≤ 1073741824) (hlb : b.length ≤ 1073741824) (ha : ∀ x ∈ a, litOk x) (hb : ∀ x ∈ b, litOk x) :
    ACalls Tryz.prog 86 [.slice tok (a.map encLit), .slice tok' (b.map encLit)] σ (isR (resB (bothL a b)) σ) := by
  refine ACalls.intro (rs := [(.tmp 4), (.tmp 5)]) (by kernel_rfl) { own := [], ghosts := [] } Tryz.func86 (c := Tryz.f86.body.getD .skip) (by kernel_rfl) (by decide) (by rw [show Tryz.f86.ntmps = 11 by kernel_rfl]; exact Nat.le_of_ble_eq_true rfl) (by kernel_rfl) ?_
  intro hσ hids
  rw [show comp Tryz.prog { own := [], ghosts := [] } (Tryz.f86.body.getD .skip) = c_both by kernel_rfl, show Tryz.f86.ntmps = 11 by kernel_rfl]
  unfold c_both
  simp only [go_sem, Int.reduceToNat, Int.reduceLE, Int.reduceLT, Nat.reduceBEq, Nat.reduceLT, Nat.reduceAdd, Nat.reduceLeDiff]
  refine (merged_spec a b tok tok' σ hla hlb ha hb).is ?_
  cases h : bothL a b with
  | none =>
    simp only [go_sem, Int.reduceToNat, Int.reduceLE, Int.reduceLT, Nat.reduceBEq, Nat.reduceLT, Nat.reduceAdd, Nat.reduceLeDiff, resB]
    first | exact rtl (.slice .nil []) (.bool false) ⟨rfl, rfl⟩ | exact rtl0 (.slice .nil []) (.bool false) ⟨rfl, rfl⟩
  | some l =>
    simp only [go_sem, Int.reduceToNat, Int.reduceLE, Int.reduceLT, Nat.reduceBEq, Nat.reduceLT, Nat.reduceAdd, Nat.reduceLeDiff, resB]
    first | exact rtl (.slice .unk (l.map encLit)) (.bool true) ⟨rfl, rfl⟩ | exact rtl0 (.slice .unk (l.map encLit)) (.bool true) ⟨rfl, rfl⟩
def c_reduced1 : CCode := .seq (.ops [⟨some 3, .move (.lit (.bool false)), none, []⟩]) (.seq (.ops [⟨some 4, .move (.tmp 0), none, []⟩, ⟨some 5, .load none (.tmp 1), none, []⟩, ⟨some 6, .call (.lit (.func 57 [])) [.tmp 4, .tmp 5], none, []⟩, ⟨some 3, .move (.tmp 6), none, []⟩]) .ret)
set_option maxRecDepth 20000 in
theorem reduced1_spec (a b : List FLit) (tok tok' : Tok) (id : Nat) (σ : Store) (hla : a.length ≤ 140737488355328) (hlb : b.length ≤ 140737488355328) (hid : σ[id]? = some (.row [.slice tok' (b.map encLit)])) :
    ACalls Tryz.prog 56 [.slice tok (a.map encLit), .ptr id 0] σ (isR (.bool (withinB a b)) σ) := by
  refine ACalls.intro (rs := [(.tmp 3)]) (by kernel_rfl) { own := [], ghosts := [] } Tryz.func56 (c := Tryz.f56.body.getD .skip) (by kernel_rfl) (by decide) (by rw [show Tryz.f56.ntmps = 7 by kernel_rfl]; exact Nat.le_of_ble_eq_true rfl) (by kernel_rfl) ?_
  intro hσ hids
  rw [show comp Tryz.prog { own := [], ghosts := [] } (Tryz.f56.body.getD .skip) = c_reduced1 by kernel_rfl, show Tryz.f56.ntmps = 7 by kernel_rfl]
  unfold c_reduced1
  simp only [go_sem, Int.reduceToNat, Int.reduceLE, Int.reduceLT, Nat.reduceBEq, Nat.reduceLT, Nat.reduceAdd, Nat.reduceLeDiff, hid]
  refine (within_spec a b tok tok' σ hla hlb).is ?_
  simp only [go_sem, Int.reduceToNat, Int.reduceLE, Int.reduceLT, Nat.reduceBEq, Nat.reduceLT, Nat.reduceAdd, Nat.reduceLeDiff]
  first | exact rtw (v := .bool _) wkS ⟨rfl, rfl⟩ | exact rtw0 (v := .bool _) wkS ⟨rfl, rfl⟩
def c_cloneL : CCode := .seq (.ops [⟨some 2, .move (.lit (.slice .nil [])), none, []⟩]) (.seq (.seq (.ops [⟨some 3, .move (.tmp 0), none, []⟩, ⟨some 4, .bin .eql .slice (.tmp 3) (.lit (.slice .nil [])), none, []⟩]) (.cond (.tmp 4) (.seq (.ops [⟨some 2, .move (.lit (.slice .nil [])), none, []⟩]) .ret) .skip)) (.seq (.ops [⟨some 5, .bslice 2 [] false, none, []⟩, ⟨some 6, .move (.tmp 0), none, []⟩, ⟨some 7, .bappend 2 16 (.tmp 5) (.tmp 6) false, none, []⟩, ⟨some 2, .move (.tmp 7), none, []⟩]) .ret))
set_option maxRecDepth 20000 in
theorem cloneL_specF (l : List FLit) (tok : Tok) (σ : Store) (hl : l.length ≤ 1073741824) :
    ACalls Tryz.prog 58 [.slice tok (l.map encLit)] σ (isR (.slice .fresh (l.map encLit)) σ) := by
  refine ACalls.intro (rs := [(.tmp 2)]) (by kernel_rfl) { own := [], ghosts := [] } Tryz.func58 (c := Tryz.f58.body.getD .skip) (by kernel_rfl) (by decide) (by rw [show Tryz.f58.ntmps = 8 by kernel_rfl]; exact Nat.le_of_ble_eq_true rfl) (by kernel_rfl) ?_
  intro hσ hids
  rw [show comp Tryz.prog { own := [], ghosts := [] } (Tryz.f58.body.getD .skip) = c_cloneL by kernel_rfl, show Tryz.f58.ntmps = 8 by kernel_rfl]
  unfold c_cloneL
  have hbig : bigLen l.length 16 := big_ok (by omega) (by omega)
  simp only [go_sem, Int.reduceToNat, Int.reduceLE, Int.reduceLT, Nat.reduceBEq, Nat.reduceLT, Nat.reduceAdd, Nat.reduceLeDiff]
  intro b hb
  cases b
  · have hall : ∀ x ∈ l, (encLit x).length = 2 ∧ (encLit x).all AV.one = true := fun x _ => ⟨rfl, rfl⟩
    simp only [go_sem, Int.reduceToNat, Int.reduceLE, Int.reduceLT, Nat.reduceBEq, Nat.reduceLT, Nat.reduceAdd, Nat.reduceLeDiff, hbig]
    refine ⟨hall, ?_⟩
    first | exact rtk (.slice .fresh (l.map encLit)) ⟨rfl, rfl⟩ | exact rtk0 (.slice .fresh (l.map encLit)) ⟨rfl, rfl⟩
  · have hl0 : l = [] := by
      cases l with
      | nil => rfl
      | cons x l => exact absurd (hb (by simp)) (by simp)
    subst hl0
    simp only [go_sem, Int.reduceToNat, Int.reduceLE, Int.reduceLT, Nat.reduceBEq, Nat.reduceLT, Nat.reduceAdd, Nat.reduceLeDiff]
    first | exact rtk (.slice .fresh []) ⟨rfl, rfl⟩ | exact rtk0 (.slice .fresh []) ⟨rfl, rfl⟩
end Go.Proofs.YtbnhijapbnfohaaGreat
namespace Go.Proofs.YtbnhijapbnfohaaGreat
open Go.Ahl
/-! ### The order of conditions is total -/
def keyL (x : FLit) : Int := 2 * x.fact + (if x.neg then 1 else 0)
theorem lessI_neg (a b : FLit) : (lessI a b < 0) = (keyL a < keyL b) := by
  unfold lessI keyL
  apply propext
  by_cases h : a.fact = b.fact
  · rw [if_pos h, h]; cases a.neg <;> cases b.neg <;> simp <;> omega
  · rw [if_neg h]; cases a.neg <;> cases b.neg <;> simp <;> omega
theorem lessI_zero (a b : FLit) : (lessI a b = 0) = (keyL a = keyL b) := by
  unfold lessI keyL
  apply propext
  by_cases h : a.fact = b.fact
  · rw [if_pos h, h]; cases a.neg <;> cases b.neg <;> simp <;> omega
  · rw [if_neg h]; cases a.neg <;> cases b.neg <;> simp <;> omega
theorem keyL_inj {a b : FLit} (h : keyL a = keyL b) : a = b := by
  obtain ⟨f, n⟩ := a; obtain ⟨g, k⟩ := b
  unfold keyL at h
  cases n <;> cases k <;> simp at h <;> first | (have : f = g := by omega); subst this; rfl | omega
theorem cmp_refl : ∀ a : List FLit, cmpLits a a = 0
  | [] => rfl
  | x :: l => by rw [cmpLits, if_pos (by rw [lessI_zero]), cmp_refl l]
theorem cmp_anti : ∀ {a b : List FLit}, cmpLits a b = 0 → a = b
  | [], [], _ => rfl
  | [], _ :: _, h => by simp [cmpLits] at h
  | _ :: _, [], h => by simp [cmpLits] at h
  | x :: a, y :: b, h => by
    rw [cmpLits] at h
    by_cases h0 : lessI x y = 0
    · rw [if_pos h0] at h
      rw [lessI_zero] at h0
      rw [keyL_inj h0, cmp_anti h]
    · rw [if_neg h0] at h; exact absurd h h0
theorem cmp_swap : ∀ {a b : List FLit}, cmpLits a b < 0 ↔ 0 < cmpLits b a
  | [], [] => by simp [cmpLits]
  | [], _ :: _ => by simp [cmpLits]
  | _ :: _, [] => by simp [cmpLits]
  | x :: a, y :: b => by
    rw [cmpLits, cmpLits]
    by_cases h0 : lessI x y = 0
    · have h1 : lessI y x = 0 := by rw [lessI_zero] at h0 ⊢; exact h0.symm
      rw [if_pos h0, if_pos h1]; exact cmp_swap
    · have h1 : ¬ lessI y x = 0 := by rw [lessI_zero] at h0 ⊢; exact fun e => h0 e.symm
      rw [if_neg h0, if_neg h1]
      have e1 := lessI_neg x y
      have e2 := lessI_neg y x
      rw [lessI_zero] at h0
      rw [e1]
      constructor
      · intro h
        rcases Int.lt_trichotomy (lessI y x) 0 with q | q | q
        · rw [e2] at q; omega
        · exact absurd q h1
        · exact q
      · intro h
        have : ¬ keyL y < keyL x := fun q => by rw [← e2] at q; omega
        omega
theorem cmp_trans : ∀ {a b c : List FLit}, cmpLits a b < 0 → cmpLits b c < 0 → cmpLits a c < 0
  | [], [], _, h, _ => by simp [cmpLits] at h
  | _ :: _, [], _, h, _ => by simp [cmpLits] at h
  | _, _ :: _, [], _, h => by simp [cmpLits] at h
  | [], _ :: _, _ :: _, _, _ => by simp [cmpLits]
  | x :: a, y :: b, z :: c, h, k => by
    rw [cmpLits] at h k ⊢
    by_cases h0 : lessI x y = 0
    · rw [if_pos h0] at h
      rw [lessI_zero] at h0
      have hxy := keyL_inj h0; subst hxy
      by_cases k0 : lessI x z = 0
      · rw [if_pos k0] at k ⊢; exact cmp_trans h k
      · rw [if_neg k0] at k ⊢; exact k
    · rw [if_neg h0, lessI_neg] at h
      by_cases k0 : lessI y z = 0
      · rw [lessI_zero] at k0
        have hyz := keyL_inj k0; subst hyz
        rw [if_neg h0, lessI_neg]; exact h
      · rw [if_neg k0, lessI_neg] at k
        rw [if_neg (by rw [lessI_zero]; omega), lessI_neg]; omega
theorem order_refl (a : List FLit) : orderI a a = 0 := by rw [orderI, if_pos rfl, cmp_refl]
theorem order_anti {a b : List FLit} (h : orderI a b = 0) : a = b := by
  unfold orderI at h
  by_cases hl : a.length = b.length
  · rw [if_pos hl] at h; exact cmp_anti h
  · rw [if_neg hl] at h; omega
theorem order_swap {a b : List FLit} : orderI a b < 0 ↔ 0 < orderI b a := by
  unfold orderI
  by_cases hl : a.length = b.length
  · rw [if_pos hl, if_pos hl.symm]; exact cmp_swap
  · rw [if_neg hl, if_neg (fun e => hl e.symm)]; omega
theorem order_trans {a b c : List FLit} (h : orderI a b < 0) (k : orderI b c < 0) : orderI a c < 0 := by
  unfold orderI at h k ⊢
  by_cases hl : a.length = b.length
  · rw [if_pos hl] at h
    by_cases kl : b.length = c.length
    · rw [if_pos kl] at k; rw [if_pos (hl.trans kl)]; exact cmp_trans h k
    · rw [if_neg kl] at k; rw [if_neg (by omega)]; omega
  · rw [if_neg hl] at h
    by_cases kl : b.length = c.length
    · rw [if_neg (by omega)]; omega
    · rw [if_neg kl] at k; rw [if_neg (by omega)]; omega
theorem order_le_total (a b : List FLit) : orderI a b ≤ 0 ∨ orderI b a ≤ 0 := by
  rcases Int.lt_trichotomy (orderI a b) 0 with h | h | h
  · exact .inl (by omega)
  · exact .inl (by omega)
  · have := (order_swap (a := b) (b := a)).2 h; exact .inr (by omega)
theorem order_le_trans {a b c : List FLit} (h : orderI a b ≤ 0) (k : orderI b c ≤ 0) : orderI a c ≤ 0 := by
  rcases Int.lt_or_eq_of_le h with h | h
  · rcases Int.lt_or_eq_of_le k with k | k
    · exact Int.le_of_lt (order_trans h k)
    · rw [← order_anti k]; exact Int.le_of_lt h
  · rw [order_anti h]; exact k
def insO (x : List FLit) : List (List FLit) → List (List FLit)
  | [] => [x]
  | y :: l => if orderI x y ≤ 0 then x :: y :: l else y :: insO x l
/-- The terms in order. -/
def sortO : List (List FLit) → List (List FLit)
  | [] => []
  | x :: l => insO x (sortO l)
theorem insO_perm (x : List FLit) : ∀ l, (insO x l).Perm (x :: l)
  | [] => .refl _
  | y :: l => by
    rw [insO]
    split
    · exact .refl _
    · exact ((insO_perm x l).cons y).trans (.swap x y l)
theorem sortO_perm : ∀ l, (sortO l).Perm l
  | [] => .refl _
  | x :: l => (insO_perm x (sortO l)).trans ((sortO_perm l).cons x)
def leO (a b : List FLit) : Prop := orderI a b ≤ 0
theorem insO_sorted (x : List FLit) : ∀ {l}, l.Pairwise leO → (insO x l).Pairwise leO
  | [], _ => by simp [insO]
  | y :: l, h => by
    rw [insO]
    rw [List.pairwise_cons] at h
    split
    · rename_i hxy
      refine List.pairwise_cons.2 ⟨fun z hz => ?_, List.pairwise_cons.2 h⟩
      rcases List.mem_cons.1 hz with rfl | hz
      · exact hxy
      · exact order_le_trans hxy (h.1 z hz)
    · rename_i hxy
      refine List.pairwise_cons.2 ⟨fun z hz => ?_, insO_sorted x h.2⟩
      rcases List.mem_cons.1 ((insO_perm x l).mem_iff.1 hz) with rfl | hz
      · rcases order_le_total z y with q | q
        · exact absurd q hxy
        · exact q
      · exact h.1 z hz
theorem sortO_sorted : ∀ l, (sortO l).Pairwise leO
  | [] => .nil
  | x :: l => insO_sorted x (sortO_sorted l)
theorem sorted_unique : ∀ {a b : List (List FLit)}, a.Perm b → a.Pairwise leO → b.Pairwise leO → a = b
  | [], b, p, _, _ => by rw [p.nil_eq]
  | x :: a, b, p, ha, hb => by
    match b, p, hb with
    | [], p, _ => exact absurd p.symm.nil_eq (by simp)
    | y :: b, p, hb =>
      rw [List.pairwise_cons] at ha hb
      have hxy : x = y := by
        rcases List.mem_cons.1 (p.mem_iff.1 List.mem_cons_self) with h | h
        · exact h
        · rcases List.mem_cons.1 (p.mem_iff.2 (List.mem_cons_self (a := y) (l := b))) with h' | h'
          · exact h'.symm
          · have q1 := hb.1 x h
            have q2 := ha.1 y h'
            have q2 : orderI x y ≤ 0 := q2
            have q1 : orderI y x ≤ 0 := q1
            rcases Int.lt_or_eq_of_le q2 with q2 | q2
            · have := order_swap.1 q2; omega
            · exact order_anti q2
      subst hxy
      rw [sorted_unique p.cons_inv ha.2 hb.2]
theorem sortO_unique {a l : List (List FLit)} (p : a.Perm l) (h : a.Pairwise fun x y => ¬ orderI y x < 0) : a = sortO l := by
  refine sorted_unique (p.trans (sortO_perm l).symm) (h.imp fun {x y} hxy => ?_) (sortO_sorted l)
  rcases order_le_total x y with q | q
  · exact q
  · have : orderI y x = 0 := by omega
    rw [order_anti this]; show orderI x x ≤ 0; rw [order_refl]; exact Int.le_refl _
/-! ### Reduced formulas -/
def redLoop : List (List FLit) → List (List FLit) → List (List FLit)
  | out, [] => out
  | out, x :: l => if out.any (fun y => withinB y x) then redLoop out l else redLoop (out ++ [x]) l
/-- The reduced form of a formula. -/
def reducedL (f : List (List FLit)) : List (List FLit) := redLoop [] (sortO f)
end Go.Proofs.YtbnhijapbnfohaaGreat
/- The abstract layer, part 20: the library's sorting of rows of one cell an element, told of rows of one's own. -/
namespace Go.Ahl
open Go.Sort Go.Shelf Go.RowKit Go.Lib Go.Proofs
/-- The memory, without what may be written to at any time. -/
def Mem.strip (m : Mem) : Mem := { m with wk := fun _ _ => none }
theorem SRel.strip {m : Mem} {loc : List Loc} {σ : Store} {w : World} (h : SRel m loc σ w) (hr : ∀ a v, Rel m loc a v → Rel m.strip loc a v) : SRel m.strip loc σ w where
  len := h.len
  im := h.im
  bs := h.bs
  obj i l o h1 h2 := by
    have := h.obj i l o h1 h2
    cases l with
    | nowhere => cases o <;> exact this
    | blk b =>
      cases o with
      | dead => trivial
      | grow sz n => exact this
      | vec sz n cells => exact this
      | row cells =>
        obtain ⟨arr, t, h1, h2, h3, h4, h5⟩ := this
        exact ⟨arr, t, h1, h2, h3, fun j x v e1 e2 => hr _ _ (h4 j x v e1 e2), h5⟩
      | map es =>
        obtain ⟨en, c, h1, h2⟩ := this
        exact ⟨en, c, h1, ⟨h2.len, fun i k x e a b => ⟨hr _ _ (h2.key i k x e a b).1, hr _ _ (h2.key i k x e a b).2⟩, h2.born, h2.apart⟩⟩
      | loop L =>
        obtain ⟨r, h1, h2, h3, h4, h5, h6, h7⟩ := this
        exact ⟨r, h1, h2, h3, h4, h5, h6, ⟨h7.size, fun i => hr _ _ (h7.rel i)⟩⟩
      | iter es seen =>
        rcases this with ⟨h1, h2⟩ | ⟨q, en, c, sa, st, h1, h2, h3, h4⟩
        · exact .inl ⟨h1, h2⟩
        · exact .inr ⟨q, en, c, sa, st, h1, h2, ⟨h3.len, fun i k x e a b => ⟨hr _ _ (h3.key i k x e a b).1, hr _ _ (h3.key i k x e a b).2⟩, h3.born, h3.apart⟩, h4⟩
    | tok sz f =>
      cases o with
      | vec sz' n cells =>
        obtain ⟨h0, h1, h2, h3⟩ := this
        refine ⟨h0, h1, h2, ?_⟩
        rcases h3 with h3 | ⟨b, arr, t, g1, g2, g3, g4, g5, g6⟩
        · exact .inl h3
        · exact .inr ⟨b, arr, t, g1, g2, g3, g4, fun j x v e1 e2 => hr _ _ (g5 j x v e1 e2), g6⟩
      | _ => exact this
  inj := h.inj
  lt := h.lt
  mp := h.mp
  mpo := h.mpo
  ok := ⟨h.ok.low, h.ok.own, fun _ _ _ e => by simp [Mem.strip] at e, h.ok.fz⟩
theorem Rel.strip {m : Mem} {a : AV} {v : Value} (h : Rel m [] a v) : Rel m.strip [] a v := by
  generalize hl : ([] : List Loc) = loc at h
  induction h with
  | any v => exact .any v
  | bool b => exact .bool b
  | int k n => exact .int k n
  | str s => exact .str s
  | slice tok elems a cap sz b o f hcap htok hsz ha hc hr ih =>
    refine .slice tok elems a cap sz b o f hcap ?_ hsz ha hc ih
    cases tok <;> exact htok
  | ref id sz off len cap b n h1 h2 h3 h4 => exact .ref id sz off len cap b n h1 h2 h3 h4
  | ref0 id sz off a h1 => exact .ref0 id sz off a h1
  | vec id sz len cap f a h1 h2 h3 => exact .vec id sz len cap f a h1 h2 h3
  | ptr id off b h1 => exact .ptr id off b h1
  | rptr cells b o f hc hr ih => exact .rptr cells b o f hc ih
  | map id b h1 => exact .map id b h1
  | mapnil => exact .mapnil
  | func fn c vs h1 h2 ih => exact .func fn c vs h1 ih
  | agg c vs h1 h2 ih => exact .agg c vs h1 ih
  | tuple c vs h1 h2 ih => exact .tuple c vs h1 ih
  | conc v => exact .conc v
  | yld id b h1 => exact .yld id b h1
  | cell K v h => exact .cell K v h
  | wslice elems a cap sz b o f hl' => subst hl; simp at hl'
  | wptr cells b o f hl' => subst hl; simp at hl'
theorem world_of_ext {m m' : Mem} {loc' : List Loc} {w w' : World} (h : Ext 0 m [] w m' loc' w') (hz : ∀ b o, m.wk b o = none) : ∃ q os', w' = grow (w.drewN q) os' := by
  refine ⟨w'.drawn - w.drawn, w'.heap.extract w.heap.size w'.heap.size, ?_⟩
  have hn : ∀ b, ¬ Names [] b := by rintro b ⟨i, e | ⟨_, _, _, e, _⟩⟩ <;> simp at e
  have h1 := h.os; have h2 := h.tape; have h3 := h.output; have h4 := h.drawn
  have hh : w'.heap = w.heap ++ w'.heap.extract w.heap.size w'.heap.size := by
    apply Array.ext_getElem?
    intro k
    rw [Array.getElem?_append]
    by_cases hk : k < w.heap.size
    · rw [if_pos hk]; exact h.frame k hk (hn k) (hz k)
    · rw [if_neg hk, Array.getElem?_extract]
      by_cases hk2 : k < w'.heap.size
      · rw [if_pos (by omega)]; congr 1; omega
      · rw [if_neg (by omega), Array.getElem?_eq_none (by omega)]
  cases w; cases w'
  simp only at h1 h2 h3 h4 hh
  subst h1; subst h2; subst h3
  simp only [grow, World.drewN, World.mk.injEq, true_and, and_true]
  exact ⟨hh, by omega⟩
theorem srel_base {m : Mem} {loc : List Loc} {σ : Store} {w : World} (h : SRel m loc σ w) : SRel m [] [] w := by
  have := h.take 0 (fun i o e => by simp at e)
  simpa using this
section
variable {α : Type} [Inhabited α] (enc : α → Value) (w : World) (blk off n : Nat) (d : Array α) (os : Array Obj)
theorem size_sortWorld : (sortWorld enc w blk off n d os).heap.size = w.heap.size + os.size := by
  simp [sortWorld, Sort.ahead]
theorem sortWorld_other {k : Nat} (hk : k < w.heap.size) (hne : k ≠ blk) : (sortWorld enc w blk off n d os).heap[k]? = w.heap[k]? := by
  show ((putRow enc (Sort.ahead w n) blk off d).heap ++ os)[k]? = _
  rw [Array.getElem?_append_left (by simpa [Sort.ahead] using hk)]
  show (w.heap.modify blk _)[k]? = _
  rw [Array.getElem?_modify, if_neg (fun e => hne e.symm)]
theorem sortWorld_own {arr : Array Value} {t : TypeId} {fz : Nat × Nat} (h : w.heap[blk]? = some (.cells arr t fz)) : (sortWorld enc w blk off n d os).heap[blk]? = some (.cells (putCells enc off d arr) t fz) := by
  have hk : blk < w.heap.size := by
    rcases Nat.lt_or_ge blk w.heap.size with q | q
    · exact q
    · rw [Array.getElem?_eq_none q] at h; simp at h
  show ((putRow enc (Sort.ahead w n) blk off d).heap ++ os)[blk]? = _
  rw [Array.getElem?_append_left (by simpa [Sort.ahead] using hk)]
  show (w.heap.modify blk _)[blk]? = _
  rw [Array.getElem?_modify, if_pos rfl, h]; rfl
theorem size_putCells (arr : Array Value) : (putCells enc off d arr).size = arr.size := by simp [putCells]
end
theorem srel_sorted {α : Type} [Inhabited α] (enc : α → Value) {m : Mem} {w : World} (blk off n : Nat) (d : Array α) (os : Array Obj) (h : SRel m [] [] w) (hb : ∀ o, m.im blk o = none) (hbm : m.mp blk = none) (hz : ∀ b o, m.wk b o = none) : SRel m [] [] (sortWorld enc w blk off n d os) := by
  refine ⟨rfl, ?_, ?_, by intro i l o e; simp at e, by intro i j l l' o o' b e; simp at e, by rintro b ⟨i, e | ⟨_, _, _, e, _⟩⟩ <;> simp at e, ?_, by intro i l o b e; simp at e, ?_⟩
  · intro b o v e
    have hne : b ≠ blk := fun q => by subst q; rw [hb] at e; simp at e
    have := h.im b o v e
    have hlt := h.im_lt e
    unfold World.cell? at this ⊢
    rw [sortWorld_other enc w blk off n d os hlt hne]; exact this
  · intro b k e
    obtain ⟨arr, t, fz, h1, h2⟩ := h.bs b k e
    by_cases hne : b = blk
    · subst hne; exact ⟨_, t, fz, sortWorld_own enc w b off n d os h1, by rw [size_putCells]; exact h2⟩
    · exact ⟨arr, t, fz, by rw [sortWorld_other enc w blk off n d os (h.bs_lt e) hne]; exact h1, h2⟩
  · intro b e q
    have hne : b ≠ blk := fun q' => by subst q'; rw [hbm] at q; simp at q
    rw [sortWorld_other enc w blk off n d os (h.mp_lt q) hne]; exact h.mp b e q
  · refine ⟨by rw [size_sortWorld]; exact Nat.le_trans h.ok.low (Nat.le_add_right _ _), by rintro b ⟨i, e | ⟨_, _, _, e, _⟩⟩ <;> simp at e, fun b o K e => by rw [hz] at e; simp at e, fun b o v q e => ?_⟩
    have hne : b ≠ blk := fun q' => by subst q'; rw [hb] at e; simp at e
    rw [frozen_same (sortWorld_other enc w blk off n d os (h.im_lt e) hne)]; exact h.ok.fz b o v q e
theorem rel_ref {m : Mem} {loc : List Loc} {id sz off len : Nat} {v : Value} (h : Rel m loc (.ref id sz off len) v) :
    (∃ cap b n, v = .slice (some ⟨b, off, none⟩) len cap ∧ loc[id]? = some (.blk b) ∧ len ≤ cap ∧ m.bs b = some n ∧ off + cap * sz ≤ n) ∨ (len = 0 ∧ ∃ a, v = .slice a 0 0) := by
  cases h with
  | ref _ _ _ _ cap b n h1 h2 h3 h4 => exact .inl ⟨cap, b, n, rfl, h1, h2, h3, h4⟩
  | ref0 _ _ _ a _ => exact .inr ⟨rfl, a, rfl⟩
section
variable {P : Program} {ρ : Ren} {β : Type}
/-- slices.SortFunc at rows of one cell an element, by an order that only looks at its two elements. -/
theorem sort1 (L : SlLaysF.n6 P ρ) {fn gn : Func} (hf : P.funcs[ρ.f 6]? = some fn) (hfb : fn.body.isSome = true) (hfn : fn.name ≠ "runtime.NumGoroutine") (av : β → AV) (ok : β → Prop) (cf : β → β → Int)
    (hone : ∀ b, (av b).one = true) (hids : ∀ b, Ids 0 (av b)) (b0 : β) (v0 : Value) (hb0 : ok b0) (hv0 : ∀ m, Rel m [] (av b0) v0)
    (irr : ∀ x, ok x → ¬ cf x x < 0) (tr : ∀ x y z, ok x → ok y → ok z → cf x y < 0 → cf y z < 0 → cf x z < 0) (ntr : ∀ x y z, ok x → ok y → ok z → ¬ cf x y < 0 → ¬ cf y z < 0 → ¬ cf x z < 0)
    (g : FuncId) (hg : P.funcs[g]? = some gn) (hgb : gn.body.isSome = true) (hgn : (gn.name == "runtime.NumGoroutine") = false) (hcmp : ∀ x y, ok x → ok y → ACalls P g [av x, av y] [] (isR (.int .i64 (cf x y)) []))
    (id : Nat) (l : List β) (hl : ∀ x ∈ l, ok x) (σ : Store) (hσ : σ[id]? = some (.row (l.map av))) (hlen : l.length < 4611686018427387904) :
    ACalls P (ρ.f 6) [.ref id 1 0 l.length, .func g []] σ fun r σ' => r = .tuple [] ∧ ∃ l' : List β, l'.Perm l ∧ l'.Pairwise (fun x y => ¬ cf y x < 0) ∧ σ' = σ.set id (.row (l'.map av)) := by
  intro m loc w vs hs ha
  refine .inl ⟨fn, hf, hfb, hfn, ?_⟩
  obtain ⟨v, u, rfl, h1, h2⟩ := ha.two
  cases h2 with
  | func _ _ us hlenu _ =>
  have hus : us = #[] := Array.size_eq_zero_iff.1 hlenu
  subst hus
  have hid := lt_of_get hσ
  have hloc : loc[id]? = some (loc[id]'(by rw [hs.len]; exact hid)) := List.getElem?_eq_getElem _
  by_cases hl0 : l.length = 0
  · have hlnil : l = [] := List.length_eq_zero_iff.1 hl0
    subst hlnil
    have key : ∀ a c, v = .slice a 0 c → Calls P (ρ.f 6) #[v, .func (.func g) #[] #[]] w fun e w' => ∃ v', e = .returned v' ∧ ARet loc m w (fun r σ' => r = .tuple [] ∧ ∃ l' : List β, l'.Perm [] ∧ l'.Pairwise (fun x y => ¬ cf y x < 0) ∧ σ' = σ.set id (.row (l'.map av))) v' w' := by
      rintro a c rfl
      refine (AnyF.slices_SortFunc_none (P := P) (ρ := ρ) { L with } a c _ w).mono ?_
      rintro e w' ⟨rfl, rfl⟩
      refine ⟨_, rfl, .tuple [], σ, m, loc, ⟨rfl, [], .refl _, .nil, ?_⟩, .tuple [] #[] rfl (by simp), hs, .refl _ _ _ _⟩
      rw [← set_same hσ]; simp
    rcases rel_ref h1 with ⟨cap, b, n, q0, _⟩ | ⟨_, a, q0⟩
    · exact key _ _ q0
    · exact key _ _ q0
  · rcases rel_ref h1 with ⟨cap, blk, n, q0, q1, q2, q3, q4⟩ | ⟨q0, _⟩
    rotate_left
    · exact absurd q0 hl0
    · subst q0
      obtain ⟨arr, t, e1, e2, e3, e4, e5⟩ := hs.obj id _ _ q1 hσ
      have e3 : l.length ≤ arr.size := by simpa using e3
      let A := { p : β × Value // ok p.1 ∧ Rel m [] (av p.1) p.2 }
      letI : Inhabited A := ⟨⟨(b0, v0), hb0, hv0 m⟩⟩
      let enc : A → Value := fun x => x.1.2
      let cfA : A → A → Int := fun x y => cf x.1.1 y.1.1
      have hrel : ∀ j (hj : j < l.length), Rel m [] (av l[j]) (arr[j]'(by omega)) := by
        intro j hj
        have := e4 j (av l[j]) (arr[j]'(by omega)) (by rw [List.getElem?_map, List.getElem?_eq_getElem hj]; rfl) (Array.getElem?_eq_getElem _)
        have := this.take (n := 0) (hids _)
        simpa using this
      let d : Array A := Array.ofFn fun j : Fin l.length => ⟨(l[j.1], arr[j.1]'(by omega)), hl _ (List.getElem_mem _), hrel j.1 j.2⟩
      have hds : d.size = l.length := by simp [d]
      have hdj : ∀ j (hj : j < l.length), (d[j]!).1 = (l[j], arr[j]'(by omega)) := by
        intro j hj
        rw [getElem!_pos d j (by rw [hds]; exact hj)]
        simp [d]
      have hdl : d.toList.map (·.1.1) = l := by
        apply List.ext_getElem (by simp [hds])
        intro j h1 h2
        simp [d]
      have hO : SWO (ltOf cfA) := by
        refine ⟨fun x => ?_, fun x y z a b => ?_, fun x y z a b => ?_⟩
        · exact decide_eq_false (irr _ x.2.1)
        · exact decide_eq_true (tr _ _ _ x.2.1 y.2.1 z.2.1 (of_decide_eq_true a) (of_decide_eq_true b))
        · exact decide_eq_false (ntr _ _ _ x.2.1 y.2.1 z.2.1 (of_decide_eq_false a) (of_decide_eq_false b))
      have hgc : ∃ c, gn.body = some c := Option.isSome_iff_exists.1 hgb
      obtain ⟨gc, hgc⟩ := hgc
      have hH : Holds enc w blk 0 d := by
        intro j hj
        rw [hds] at hj
        have : enc d[j]! = arr[j]'(by omega) := by show (d[j]!).1.2 = _; rw [hdj j hj]
        rw [this, Nat.zero_add]
        refine ⟨by simp [World.cell?, e1], by simp [World.frozen?, e1]⟩
      have hblk : blk < w.heap.size := hs.lt blk ⟨id, .inl q1⟩
      have hbase := srel_base hs
      have hlays : CmpLays1 P g #[] enc cfA blk 0 d.size w := by
        intro n' os dk hsz x y
        have hS := srel_sorted (m := m.strip) enc blk 0 n' dk os (hbase.strip fun _ _ q => q.strip) e5 (hs.mpo id _ _ blk q1 hσ rfl) (fun _ _ => rfl)
        have hA : ArgsRel m.strip [] [av x.1.1, av y.1.1] (#[enc x, enc y] ++ #[]) := by
          refine ⟨rfl, fun j a v => ?_⟩
          match j with
          | 0 => intro r1 r2; simp at r1 r2; subst r1; subst r2; exact x.2.2.strip
          | 1 => intro r1 r2; simp at r1 r2; subst r1; subst r2; exact y.2.2.strip
          | j + 2 => intro r1; simp at r1
        refine ((hcmp x.1.1 y.1.1 x.2.1 y.2.1).calls hg hgb (by simpa using hgn) hS hA).mono ?_
        rintro e w' ⟨v, rfl, r, σ', m', loc', ⟨rfl, rfl⟩, r1, r2, r3⟩
        cases r1
        exact ⟨rfl, world_of_ext r3 (fun _ _ => rfl)⟩
      have hmain := Any.slices_SortFunc L enc (fun x => rel_one x.2.2 (hone _)) cfA hO g #[] blk 0 cap d w (enters_of hg hgn hgc) hlays hH hblk (by rw [hds]; exact hlen)
      rw [hds] at hmain
      refine hmain.mono ?_
      rintro e w' ⟨rfl, d', n', os, hperm, hsorted, rfl⟩
      obtain ⟨p1, _, p3⟩ := hperm
      have hd's : d'.size = l.length := p1.trans hds
      have ex : ∀ x : Array A, x.size = l.length → (x.extract 0 l.length).toList = x.toList := fun x hx => by rw [← hx]; simp
      rw [ex d' hd's, ex d hds] at p3
      let l' : List β := d'.toList.map (·.1.1)
      have hl's : l'.length = l.length := by simp [l', hd's]
      have hset : loc.set id (.blk blk) = loc := set_same q1
      have key := hs.turn loc.length (m' := m) (w' := sortWorld enc w blk 0 n' d' os) (l' := .blk blk) (.row (l'.map av)) q1 hσ (.refl m) (.refl _)
        (fun k hk hne => sortWorld_other enc w blk 0 n' d' os hk (fun q => hne (by subst q; rfl))) (by rw [size_sortWorld]; omega) (fun _ _ _ _ => rfl) ?_ ?_ ?_ (fun b q => .inl q) ?_ rfl rfl rfl (by simp [sortWorld, grow, putRow, mapBlock, Sort.ahead])
      · rw [hset] at key
        refine ⟨_, rfl, .tuple [], _, m, loc, ⟨rfl, l', ?_, ?_, rfl⟩, .tuple [] #[] rfl (by simp), key.1, key.2⟩
        · have := p3.map (fun x : A => x.1.1); rw [hdl] at this; exact this
        · rw [List.pairwise_iff_getElem]
          intro i j hi hj hij
          have := hsorted i j (Nat.zero_le _) hij (by rw [← hl's]; exact hj)
          rw [getElem!_pos d' j (by rw [hd's, ← hl's]; exact hj), getElem!_pos d' i (by rw [hd's, ← hl's]; exact hi)] at this
          have := of_decide_eq_false this
          simpa [l', cfA] using this
      · intro k o v hk e'
        rcases hk with hk | hk
        · simp [own] at hk; subst hk; rw [e5] at e'; simp at e'
        · have := hs.im_lt e'; omega
      · intro k z hz
        by_cases hk : k = blk
        · subst hk
          refine .inr ⟨_, t, _, sortWorld_own enc w k 0 n' d' os e1, ?_⟩
          rw [size_putCells]
          rw [e2] at hz; injection hz
        · exact .inl ⟨hz, by simp [own]; exact fun q => hk q.symm⟩
      · rintro b ⟨_, _, _, e, _⟩; simp at e
      · refine ⟨_, t, sortWorld_own enc w blk 0 n' d' os e1, by rw [size_putCells]; exact e2, by rw [size_putCells, List.length_map, hl's]; exact e3, ?_, e5⟩
        rw [hset]
        intro j x v hj hv'
        have hjl : j < l.length := by have := lt_of_get hj; simpa [hl's] using this
        have hjd : j < d'.size := by rw [hd's]; exact hjl
        have hx : x = av (d'[j]).1.1 := by
          simp only [l', List.getElem?_map, Array.getElem?_toList, Array.getElem?_eq_getElem hjd, Option.map_some, Option.some.injEq] at hj
          exact hj.symm
        have hvv : v = (d'[j]).1.2 := by
          simp only [putCells, Array.getElem?_mapIdx, Array.getElem?_eq_getElem (by omega : j < arr.size), Option.map_some, Option.some.injEq] at hv'
          rw [if_pos (by omega), Nat.sub_zero, getElem!_pos d' j hjd] at hv'
          exact hv'.symm
        subst hx; subst hvv
        exact (d'[j]).2.2.mono (.refl m) (fun i l hi => by simp at hi)
end
end Go.Ahl
namespace Go.Proofs
open Go.Shelf Go.RowKit Go.Lib Go.Sort
def YtbnhijapbnfohaaGreat.laysC_ren : Go.Shelf.Ren := ⟨fun | 6 => 54 | 15 => 78 | 14 => 77 | 28 => 100 | 29 => 101 | 20 => 92 | 21 => 93 | 22 => 94 | 23 => 95 | 24 => 96 | 25 => 97 | 26 => 98 | 27 => 99 | 46 => 113 | 47 => 114 | 48 => 115 | 49 => 116 | 50 => 117 | 57 => 121 | n => n, fun | 22 => 28 | 24 => 24 | 25 => 85 | 3 => 3 | 39 => 104 | 0 => 0 | 53 => 125 | 55 => 127 | 4 => 4 | 46 => 119 | 45 => 118 | 50 => 115 | 5 => 5 | 9 => 9 | 66 => 135 | 70 => 139 | 76 => 142 | 77 => 143 | n => n, fun | n => n⟩
theorem YtbnhijapbnfohaaGreat.laysC : Go.Proofs.SlLaysF.n6 Tryz.prog YtbnhijapbnfohaaGreat.laysC_ren := {
  mixed := by kernel_rfl
  f6 := ⟨Tryz.f54.name, by decide, Tryz.func54.trans (congrArg some (by kernel_rfl))⟩
  f14 := ⟨Tryz.f77.name, by decide, Tryz.func77.trans (congrArg some (by kernel_rfl))⟩
  f15 := Tryz.func78.trans (congrArg some (by kernel_rfl))
  f20 := ⟨Tryz.f92.name, by decide, Tryz.func92.trans (congrArg some (by kernel_rfl))⟩
  f21 := ⟨Tryz.f93.name, by decide, Tryz.func93.trans (congrArg some (by kernel_rfl))⟩
  f22 := ⟨Tryz.f94.name, by decide, Tryz.func94.trans (congrArg some (by kernel_rfl))⟩
  f23 := ⟨Tryz.f95.name, by decide, Tryz.func95.trans (congrArg some (by kernel_rfl))⟩
  f24 := ⟨Tryz.f96.name, by decide, Tryz.func96.trans (congrArg some (by kernel_rfl))⟩
  f25 := ⟨Tryz.f97.name, by decide, Tryz.func97.trans (congrArg some (by kernel_rfl))⟩
  f26 := ⟨Tryz.f98.name, by decide, Tryz.func98.trans (congrArg some (by kernel_rfl))⟩
  f27 := ⟨Tryz.f99.name, by decide, Tryz.func99.trans (congrArg some (by kernel_rfl))⟩
  f28 := Tryz.func100.trans (congrArg some (by kernel_rfl))
  f29 := Tryz.func101.trans (congrArg some (by kernel_rfl))
  f46 := ⟨Tryz.f113.name, by decide, Tryz.func113.trans (congrArg some (by kernel_rfl))⟩
  f47 := Tryz.func114.trans (congrArg some (by kernel_rfl))
  f48 := Tryz.func115.trans (congrArg some (by kernel_rfl))
  f49 := ⟨Tryz.f116.name, by decide, Tryz.func116.trans (congrArg some (by kernel_rfl))⟩
  f50 := ⟨Tryz.f117.name, by decide, Tryz.func117.trans (congrArg some (by kernel_rfl))⟩
  f57 := ⟨Tryz.f121.name, by decide, Tryz.func121.trans (congrArg some (by kernel_rfl))⟩
  t0 := Tryz.underlying0
  a0 := Tryz.isAgg0
  z0 := Tryz.sizeOf0
  v0 := Tryz.zeroValue0
  t3 := Tryz.underlying3
  a3 := Tryz.isAgg3
  z3 := Tryz.sizeOf3
  v3 := Tryz.zeroValue3
  t4 := Tryz.underlying4
  a4 := Tryz.isAgg4
  z4 := Tryz.sizeOf4
  v4 := Tryz.zeroValue4
  t5 := Tryz.underlying5
  a5 := Tryz.isAgg5
  z5 := Tryz.sizeOf5
  v5 := Tryz.zeroValue5
  t9 := Tryz.underlying9
  a9 := Tryz.isAgg9
  z9 := Tryz.sizeOf9
  v9 := Tryz.zeroValue9
  t22 := Tryz.underlying28
  a22 := Tryz.isAgg28
  z22 := Tryz.sizeOf28
  v22 := Tryz.zeroValue28
  a24 := Tryz.isAgg24
  z24 := Tryz.sizeOf24
  t25 := Tryz.underlying85
  a25 := Tryz.isAgg85
  z25 := Tryz.sizeOf85
  v25 := Tryz.zeroValue85
  t39 := Tryz.underlying104
  a39 := Tryz.isAgg104
  z39 := Tryz.sizeOf104
  v39 := Tryz.zeroValue104
  t45 := Tryz.underlying118
  a45 := Tryz.isAgg118
  z45 := Tryz.sizeOf118
  v45 := Tryz.zeroValue118
  t46 := Tryz.underlying119
  a46 := Tryz.isAgg119
  z46 := Tryz.sizeOf119
  v46 := Tryz.zeroValue119
  t50 := Tryz.underlying115
  a50 := Tryz.isAgg115
  z50 := Tryz.sizeOf115
  v50 := Tryz.zeroValue115
  t53 := Tryz.underlying125
  a53 := Tryz.isAgg125
  z53 := Tryz.sizeOf125
  v53 := Tryz.zeroValue125
  t55 := Tryz.underlying127
  a55 := Tryz.isAgg127
  z55 := Tryz.sizeOf127
  v55 := Tryz.zeroValue127
  t66 := Tryz.underlying135
  a66 := Tryz.isAgg135
  z66 := Tryz.sizeOf135
  v66 := Tryz.zeroValue135
  t70 := Tryz.underlying139
  a70 := Tryz.isAgg139
  z70 := Tryz.sizeOf139
  v70 := Tryz.zeroValue139
  t76 := Tryz.underlying142
  a76 := Tryz.isAgg142
  z76 := Tryz.sizeOf142
  v76 := Tryz.zeroValue142
  t77 := Tryz.underlying143
  a77 := Tryz.isAgg143
  z77 := Tryz.sizeOf143
  v77 := Tryz.zeroValue143 }
end Go.Proofs
namespace Go.Proofs.YtbnhijapbnfohaaGreat
open Go.Ahl
def vC (l : List FLit) : AV := .slice .unk (l.map encLit)
def vCf (l : List FLit) : AV := .slice .fresh (l.map encLit)
theorem flat_C (f : List (List FLit)) : (f.map encC).flatten = f.map vC := by
  induction f with
  | nil => rfl
  | cons l f ih => rw [List.map_cons, List.flatten_cons, ih]; rfl
theorem ids_vC {n : Nat} (f : List (List FLit)) : IdsL n (f.map vC) := by
  intro x hx
  obtain ⟨l, _, rfl⟩ := List.mem_map.1 hx
  exact ids_map ids_encLit l
/-- A condition of facts that are numbers, not too long. -/
def cOk (l : List FLit) : Prop := l.length ≤ 1073741824 ∧ ∀ x ∈ l, litOk x
/-- A formula of such, not too long. -/
def fOk (f : List (List FLit)) : Prop := f.length ≤ 1073741824 ∧ ∀ l ∈ f, cOk l
theorem sortC_spec (id : Nat) (l : List (List FLit)) (hl : ∀ x ∈ l, cOk x) (σ : Store) (hσ : σ[id]? = some (.row (l.map vC))) (hlen : l.length ≤ 1073741824) :
    ACalls Tryz.prog 54 [.ref id 1 0 l.length, .func 55 []] σ fun r σ' => r = .tuple [] ∧ σ' = σ.set id (.row ((sortO l).map vC)) := by
  have h := sort1 laysC (fn := Tryz.f54) (gn := Tryz.f55) Tryz.func54 (by kernel_rfl) (by decide) vC cOk orderI (fun _ => rfl) (fun l => ids_map ids_encLit l) [] (.slice none 0 0) ⟨by simp, by simp⟩
    (fun m => .slice .unk [] none 0 0 0 0 (fun _ _ => undef) (Nat.le_refl _) trivial (by simp) (fun h => absurd rfl h) (fun i hi => absurd hi (by simp)) (by simp))
    (fun x _ => by rw [order_refl]; omega) (fun x y z _ _ _ => order_trans)
    (fun x y z _ _ _ h k => by
      rcases order_le_total y x with q | q
      · rcases order_le_total z y with q' | q'
        · have := order_le_trans q' q
          intro hh; have := order_swap.1 hh; omega
        · have e : orderI y z = 0 := by omega
          rw [← order_anti e]; exact h
      · have e : orderI x y = 0 := by omega
        rw [order_anti e]; exact k)
    55 Tryz.func55 (by kernel_rfl) (by kernel_rfl) (fun x y hx hy => order_spec x y .unk .unk [] (by have := hx.1; omega) (by have := hy.1; omega) hx.2 hy.2) id l hl σ hσ (by omega)
  refine h.mono ?_
  rintro r σ' ⟨rfl, l', hp, hs, rfl⟩
  exact ⟨rfl, by rw [sortO_unique hp hs]⟩
def c_cloneC : CCode := .seq (.ops [⟨some 2, .move (.lit (.slice .nil [])), none, []⟩]) (.seq (.seq (.ops [⟨some 3, .move (.tmp 0), none, []⟩, ⟨some 4, .bin .eql .slice (.tmp 3) (.lit (.slice .nil [])), none, []⟩]) (.cond (.tmp 4) (.seq (.ops [⟨some 2, .move (.lit (.slice .nil [])), none, []⟩]) .ret) .skip)) (.seq (.ops [⟨some 5, .bslice 1 [] true, none, []⟩, ⟨some 6, .move (.tmp 0), none, []⟩, ⟨some 7, .bappend 1 24 (.tmp 5) (.tmp 6) true, none, []⟩, ⟨some 2, .move (.tmp 7), none, []⟩]) .ret))
set_option maxRecDepth 20000 in
theorem cloneC_spec (f : List (List FLit)) (tok : Tok) (σ : Store) (hf : f.length ≤ 1073741824) :
    ACalls Tryz.prog 42 [.slice tok (f.map encC)] σ (fun r σ' => r = .ref σ.length 1 0 f.length ∧ σ' = σ ++ [.row (f.map vC)]) := by
  refine ACalls.intro (rs := [(.tmp 2)]) (by kernel_rfl) { own := [(3, 0), (3, 2)], ghosts := [] } Tryz.func42 (c := Tryz.f42.body.getD .skip) (by kernel_rfl) (by decide) (by rw [show Tryz.f42.ntmps = 8 by kernel_rfl]; exact Nat.le_of_ble_eq_true rfl) (by kernel_rfl) ?_
  intro hσ hids
  rw [show comp Tryz.prog { own := [(3, 0), (3, 2)], ghosts := [] } (Tryz.f42.body.getD .skip) = c_cloneC by kernel_rfl, show Tryz.f42.ntmps = 8 by kernel_rfl]
  unfold c_cloneC
  have hbig : bigLen f.length 24 := big_ok (by omega) (by omega)
  have hσ1 : IdsS (σ ++ [AObj.row (f.map vC)]).length (σ ++ [AObj.row (f.map vC)]) := ids_grow hσ (ids_vC f)
  simp only [go_sem, Int.reduceToNat, Int.reduceLE, Int.reduceLT, Nat.reduceBEq, Nat.reduceLT, Nat.reduceAdd, Nat.reduceLeDiff]
  intro b hb
  cases b
  · have hall : ∀ x ∈ f, (encC x).length = 1 ∧ (encC x).all AV.one = true := fun x _ => ⟨rfl, rfl⟩
    simp only [go_sem, Int.reduceToNat, Int.reduceLE, Int.reduceLT, Nat.reduceBEq, Nat.reduceLT, Nat.reduceAdd, Nat.reduceLeDiff, hbig, flat_C]
    refine ⟨hall, ?_⟩
    refine ret_gh (v := .ref σ.length 1 0 f.length) (σ' := σ ++ [.row (f.map vC)]) ?_ (by simp) hσ1 (.ref _ _ _ _ (by simp)) ⟨rfl, rfl⟩
    exact .keepL0 _ rfl (Nat.le_refl _) ⟨⟨.refl _, .ref _ _ _ _ (by simp)⟩, trivial⟩ hσ1
  · have hl0 : f = [] := by
      cases f with
      | nil => rfl
      | cons x l => exact absurd (hb (by simp)) (by simp)
    subst hl0
    simp only [go_sem, Int.reduceToNat, Int.reduceLE, Int.reduceLT, Nat.reduceBEq, Nat.reduceLT, Nat.reduceAdd, Nat.reduceLeDiff]
    refine ret_gh (v := .ref σ.length 1 0 0) (σ' := σ ++ [.row []]) ?_ (by simp) hσ1 (.ref _ _ _ _ (by simp)) ⟨rfl, rfl⟩
    exact (Ghost.keep0 (s' := [(2, .slice .nil [])]) (Nat.le_refl _) ⟨⟨.refl _, ids_nil _ (by simp)⟩, trivial⟩ hσ).trans ((Ghost.row0 2 1 0 (.inl rfl)).trans (.same (lk_twice 2 _ _ [])))
def c_reduced : CCode := .seq (.ops [⟨some 2, .move (.lit (.slice .nil [])), none, []⟩]) (.seq (.ops [⟨some 7, .move (.tmp 0), none, []⟩, ⟨some 8, .call (.lit (.func 42 [])) [.tmp 7], none, []⟩, ⟨some 3, .move (.tmp 8), none, []⟩]) (.seq (.ops [⟨some 9, .move (.tmp 3), none, []⟩, ⟨some 10, .call (.lit (.func 54 [])) [.tmp 9, .lit (.func 55 [])], none, []⟩]) (.seq (.ops [⟨some 4, .move (.lit (.slice .nil [])), none, []⟩]) (.seq (.seq (.ops [⟨some 11, .move (.tmp 3), none, []⟩, ⟨some 12, .blen 1 (.tmp 11), none, []⟩, ⟨some 13, .move (.lit (.int .i64 0)), none, []⟩]) (.block 0 (.loop (.seq (.ops [⟨some 14, .bin .lss .none (.tmp 13) (.tmp 12), none, []⟩]) (.seq (.cond (.tmp 14) .skip (.exit 0)) (.seq (.block 1 (.seq (.ops [⟨some 15, .iaddr 1 (.tmp 11) (.tmp 13), none, []⟩, ⟨some 16, .load none (.tmp 15), none, []⟩, ⟨some 6, .alloc (.slice .nil []), none, []⟩, ⟨none, .store 1 (.tmp 6) (.tmp 16), none, []⟩]) (.seq (.ops [⟨some 17, .move (.tmp 4), none, []⟩, ⟨some 18, .mkfunc 56 [.tmp 6], none, []⟩, ⟨some 19, .call (.lit (.func 49 [])) [.tmp 17, .tmp 18], none, []⟩, ⟨some 20, .un .not (.tmp 19), none, []⟩]) (.cond (.tmp 20) (.ops [⟨some 21, .move (.tmp 4), none, []⟩, ⟨some 22, .load none (.tmp 6), none, []⟩, ⟨some 23, .call (.lit (.func 58 [])) [.tmp 22], none, []⟩, ⟨some 24, .bslice 1 [.tmp 23] false, none, []⟩, ⟨some 25, .bappend 1 24 (.tmp 21) (.tmp 24) false, none, []⟩, ⟨some 4, .move (.tmp 25), none, []⟩]) .skip)))) (.ops [⟨some 26, .bin .add .none (.tmp 13) (.lit (.int .i64 1)), none, []⟩, ⟨some 13, .move (.tmp 26), none, []⟩]))))))) (.seq (.ops [⟨some 27, .move (.tmp 4), none, []⟩, ⟨some 2, .move (.tmp 27), none, []⟩]) .ret)))))
set_option maxRecDepth 20000 in
theorem reduced_specF (f : List (List FLit)) (tok : Tok) (σ : Store) (hf : fOk f) :
    ACalls Tryz.prog 29 [.slice tok (f.map encC)] σ (fun r σ' => r = .slice (.grow σ.length) ((reducedL f).map encCf) ∧ σ' = σ ++ [.grow 1 (reducedL f).length]) := by
  refine ACalls.intro (rs := [(.tmp 2)]) (by kernel_rfl) { own := [], ghosts := [] } Tryz.func29 (c := Tryz.f29.body.getD .skip) (by kernel_rfl) (by decide) (by rw [show Tryz.f29.ntmps = 28 by kernel_rfl]; exact Nat.le_of_ble_eq_true rfl) (by kernel_rfl) ?_
  intro hσ hids
  rw [show comp Tryz.prog { own := [], ghosts := [] } (Tryz.f29.body.getD .skip) = c_reduced by kernel_rfl, show Tryz.f29.ntmps = 28 by kernel_rfl]
  unfold c_reduced
  simp only [go_sem, Int.reduceToNat, Int.reduceLE, Int.reduceLT, Nat.reduceBEq, Nat.reduceLT, Nat.reduceAdd, Nat.reduceLeDiff]
  refine (cloneC_spec f tok σ hf.1).mono ?_
  rintro _ _ ⟨rfl, rfl⟩
  simp only [go_sem, Int.reduceToNat, Int.reduceLE, Int.reduceLT, Nat.reduceBEq, Nat.reduceLT, Nat.reduceAdd, Nat.reduceLeDiff]
  refine (sortC_spec σ.length f hf.2 _ (by simp) hf.1).mono ?_
  rintro _ _ ⟨rfl, rfl⟩
  have hlen : (sortO f).length = f.length := (sortO_perm f).length_eq
  have hso : ∀ x ∈ sortO f, cOk x := fun x hx => hf.2 x ((sortO_perm f).mem_iff.1 hx)
  have hfl := hf.1
  have hσ1 : IdsS (σ ++ [AObj.row ((sortO f).map vC)]).length (σ ++ [AObj.row ((sortO f).map vC)]) := ids_grow hσ (ids_vC _)
  have hs2 : ∀ n, IdsS (σ ++ [AObj.row ((sortO f).map vC), AObj.grow 1 n]).length (σ ++ [AObj.row ((sortO f).map vC), AObj.grow 1 n]) := fun n => idsS_app _ hσ (all_cons' (idsO_row (ids_vC _)) (all_cons' trivial all_nil'))
  simp only [go_sem, Int.reduceToNat, Int.reduceLE, Int.reduceLT, Nat.reduceBEq, Nat.reduceLT, Nat.reduceAdd, Nat.reduceLeDiff]
  refine wpc_while (fun (q : Nat × List (List FLit)) => [(4, .slice (.grow (σ.length + 1)) (q.2.map encCf)), (11, .ref σ.length 1 0 f.length), (12, .int .i64 f.length), (13, .int .i64 q.1)]) (fun q => σ ++ [.row ((sortO f).map vC), .grow 1 q.2.length])
    (fun q => q.1 ≤ f.length ∧ q.2.length ≤ q.1 ∧ (∀ x ∈ q.2, cOk x) ∧ reducedL f = redLoop q.2 ((sortO f).drop q.1)) (fun q => f.length - q.1) (0, []) ⟨Nat.zero_le _, Nat.le_refl _, by simp, rfl⟩ (.begin1 4 1 _ (Nat.le_refl _) tellT hσ1) ?_
  rintro ⟨i, out⟩ ⟨hi, ho, hok, hv⟩ K hK hE hR
  dsimp only at hi ho hok hv ⊢
  by_cases h : i < (sortO f).length
  · obtain ⟨x, hx⟩ := get_ex h; have hlt : ((i : Int) < ((sortO f).length : Int)) := (by omega); have hw : IntKind.i64.wrap ((i : Int) + 1) = ((i + 1 : Nat) : Int) := (by rw [wrap_ok (by omega)]; omega)
    have hx0 := hso x (List.mem_of_getElem? hx)
    have hxl := hx0.1
    have hlt' : ((i : Int) < (f.length : Int)) := by omega
    have hif : i < f.length := by omega
    rw [drop_cons hx, redLoop] at hv
    simp only [go_sem, Int.reduceToNat, Int.reduceLE, Int.reduceLT, Nat.reduceBEq, Nat.reduceLT, Nat.reduceAdd, Nat.reduceLeDiff, hlt', hx, hif, vC]
    refine (containsFuncC_spec vCf out _ _ (fun y => withinB y x) _ _ (by omega) (fun y hy => reduced1_spec y x .fresh .unk _ _ (by have := (hok y hy).1; omega) (by omega) (by simp))).is ?_
    cases h1 : out.any (fun y => withinB y x)
    · simp only [go_sem, Int.reduceToNat, Int.reduceLE, Int.reduceLT, Nat.reduceBEq, Nat.reduceLT, Nat.reduceAdd, Nat.reduceLeDiff, vC]
      refine (cloneL_specF x .unk _ hx0.1).is ?_
      have hc : out.map encCf ++ [[AV.slice .fresh (x.map encLit)]] = (out ++ [x]).map encCf := by simp [encCf]
      have hbig : bigLen (out.length + 1) 24 := big_ok (by omega) (by omega)
      simp only [go_sem, Int.reduceToNat, Int.reduceLE, Int.reduceLT, Nat.reduceBEq, Nat.reduceLT, Nat.reduceAdd, Nat.reduceLeDiff, hc, hbig]
      rw [h1, if_neg (by simp)] at hv
      refine hK _ _ (i + 1, out ++ [x]) ⟨by simp only []; omega, by simp; omega, fun y hy => ?_, hv⟩ (by simp only []; omega) ?_
      · rcases List.mem_append.1 hy with hy | hy
        · exact hok y hy
        · rw [List.mem_singleton.1 hy]; exact hx0
      · simp only [List.length_append, List.length_cons, List.length_nil, Nat.reduceAdd]
        exact (by (try dsimp only); (try simp only [ hw]); first | exact ghL (hs2 (out.length + 1)) | exact ghL0 (hs2 (out.length + 1)))
    · simp only [go_sem, Int.reduceToNat, Int.reduceLE, Int.reduceLT, Nat.reduceBEq, Nat.reduceLT, Nat.reduceAdd, Nat.reduceLeDiff]
      rw [h1, if_pos rfl] at hv
      refine hK _ _ ((i + 1, out)) (⟨by simp only []; omega, by simp only []; omega, hok, hv⟩) (by first | omega | (simp only []; omega) | (simp; omega)) ?_; (try dsimp only); (try simp only [ hw]); first | exact ghL (hs2 out.length) | exact ghL0 (hs2 out.length)
  · have hlt' : ¬ ((i : Int) < (f.length : Int)) := by omega
    rw [drop_len h, redLoop] at hv
    simp only [go_sem, Int.reduceToNat, Int.reduceLE, Int.reduceLT, Nat.reduceBEq, Nat.reduceLT, Nat.reduceAdd, Nat.reduceLeDiff, hlt', hE]
    refine ret_gh (v := .slice (.grow σ.length) (out.map encCf)) (σ' := σ ++ [.grow 1 out.length]) ?_ (by simp) (idsS_push hσ (o := .grow 1 out.length) trivial) (ids_grow_map ids_encCf (by simp)) ⟨by rw [hv], by rw [hv]⟩
    exact .moved _ 1 _ (Nat.le_refl _) rfl hσ trivial ⟨.slice _ (fun e he y hy => by obtain ⟨l, _, rfl⟩ := List.mem_map.1 he; exact ids_encCf l y hy), trivial⟩
theorem reduced_spec (f : List (List FLit)) (tok : Tok) (σ : Store) (hf : fOk f) :
    ACalls Tryz.prog 29 [.slice tok (f.map encC)] σ (fun r σ' => r = .slice (.grow σ.length) ((reducedL f).map encC) ∧ σ' = σ ++ [.grow 1 (reducedL f).length]) :=
  (reduced_specF f tok σ hf).wkC fun r σ' hr => by obtain ⟨rfl, rfl⟩ := hr; exact ⟨_, Wk.cf _ _, rfl, rfl⟩
end Go.Proofs.YtbnhijapbnfohaaGreat
namespace Go.Proofs.YtbnhijapbnfohaaGreat
open Go.Ahl
/-! ### Conditions of n facts -/
def cV (n : Int) (l : List FLit) : Prop := condB n (-1) l = true
def vF (n : Int) (f : List (List FLit)) : Prop := ∀ l ∈ f, cV n l
theorem condB_cons {n p : Int} {x : FLit} {l : List FLit} (h : condB n p (x :: l) = true) : p < x.fact ∧ x.fact < n ∧ condB n x.fact l = true := by
  rw [condB, Bool.and_eq_true, Bool.and_eq_true] at h
  exact ⟨of_decide_eq_true h.1.1, of_decide_eq_true h.1.2, h.2⟩
theorem condB_mk {n p : Int} {x : FLit} {l : List FLit} (h1 : p < x.fact) (h2 : x.fact < n) (h3 : condB n x.fact l = true) : condB n p (x :: l) = true := by
  rw [condB, decide_eq_true h1, decide_eq_true h2, h3]; rfl
theorem condB_len {n : Int} : ∀ {l : List FLit} {p : Int}, condB n p l = true → l = [] ∨ (l.length : Int) ≤ n - 1 - p
  | [], _, _ => .inl rfl
  | x :: l, p, h => by
    obtain ⟨h1, h2, h3⟩ := condB_cons h
    rcases condB_len h3 with rfl | h4
    · right; simp; omega
    · right; simp; omega
theorem condB_mem {n : Int} : ∀ {l : List FLit} {p : Int}, condB n p l = true → ∀ x ∈ l, p < x.fact ∧ x.fact < n
  | [], _, _, x, hx => by simp at hx
  | y :: l, p, h, x, hx => by
    obtain ⟨h1, h2, h3⟩ := condB_cons h
    rcases List.mem_cons.1 hx with rfl | hx
    · exact ⟨h1, h2⟩
    · have := condB_mem h3 x hx; exact ⟨by omega, this.2⟩
theorem cV.ok {n : Int} (hn : n ≤ 1000000) {l : List FLit} (h : cV n l) : cOk l := by
  refine ⟨?_, fun x hx => ?_⟩
  · rcases condB_len h with rfl | h
    · simp
    · omega
  · have := condB_mem h x hx; exact ⟨by omega, by omega⟩
theorem vF.ok {n : Int} (hn : n ≤ 1000000) {f : List (List FLit)} (h : vF n f) (hl : f.length ≤ 1073741824) : fOk f := ⟨hl, fun l hl => (h l hl).ok hn⟩
theorem mergeF_V {n : Int} : ∀ (k : Nat) (a b c : List FLit) (p : Int), mergeF k a b = some c → condB n p a = true → condB n p b = true → condB n p c = true
  | 0, _, _, c, p, h, _, _ => by simp [mergeF] at h; subst h; rfl
  | k + 1, [], [], c, p, h, _, _ => by simp [mergeF] at h; subst h; rfl
  | k + 1, x :: a, [], c, p, h, ha, _ => by
    rw [mergeF, Option.map_eq_some_iff] at h
    obtain ⟨d, h, rfl⟩ := h
    obtain ⟨h1, h2, h3⟩ := condB_cons ha
    exact condB_mk h1 h2 (mergeF_V k a [] d x.fact h h3 rfl)
  | k + 1, [], y :: b, c, p, h, _, hb => by
    rw [mergeF, Option.map_eq_some_iff] at h
    obtain ⟨d, h, rfl⟩ := h
    obtain ⟨h1, h2, h3⟩ := condB_cons hb
    exact condB_mk h1 h2 (mergeF_V k [] b d y.fact h rfl h3)
  | k + 1, x :: a, y :: b, c, p, h, ha, hb => by
    obtain ⟨a1, a2, a3⟩ := condB_cons ha
    obtain ⟨b1, b2, b3⟩ := condB_cons hb
    rw [mergeF] at h
    split at h
    · rename_i hlt
      rw [Option.map_eq_some_iff] at h
      obtain ⟨d, h, rfl⟩ := h
      exact condB_mk a1 a2 (mergeF_V k a (y :: b) d x.fact h a3 (condB_mk hlt b2 b3))
    · split at h
      · rename_i hlt
        rw [Option.map_eq_some_iff] at h
        obtain ⟨d, h, rfl⟩ := h
        exact condB_mk b1 b2 (mergeF_V k (x :: a) b d y.fact h (condB_mk hlt a2 a3) b3)
      · split at h
        · rename_i h1 h2 _
          rw [Option.map_eq_some_iff] at h
          obtain ⟨d, h, rfl⟩ := h
          have e : x.fact = y.fact := by omega
          rw [← e] at b3
          exact condB_mk a1 a2 (mergeF_V k a b d x.fact h a3 b3)
        · simp at h
theorem bothL_V {n : Int} {a b c : List FLit} (h : bothL a b = some c) (ha : cV n a) (hb : cV n b) : cV n c := mergeF_V _ a b c _ h ha hb
theorem redLoop_mem : ∀ (l out : List (List FLit)) x, x ∈ redLoop out l → x ∈ out ∨ x ∈ l
  | [], out, x, h => .inl h
  | y :: l, out, x, h => by
    rw [redLoop] at h
    split at h
    · rcases redLoop_mem l out x h with h | h
      · exact .inl h
      · exact .inr (List.mem_cons_of_mem _ h)
    · rcases redLoop_mem l _ x h with h | h
      · rcases List.mem_append.1 h with h | h
        · exact .inl h
        · rw [List.mem_singleton.1 h]; exact .inr List.mem_cons_self
      · exact .inr (List.mem_cons_of_mem _ h)
theorem reducedL_mem {f : List (List FLit)} {x : List FLit} (h : x ∈ reducedL f) : x ∈ f := by
  rcases redLoop_mem _ _ _ h with h | h
  · simp at h
  · exact (sortO_perm f).mem_iff.1 h
theorem redLoop_len : ∀ (l out : List (List FLit)), (redLoop out l).length ≤ out.length + l.length
  | [], out => by simp [redLoop]
  | y :: l, out => by
    rw [redLoop]
    split
    · have := redLoop_len l out; simp; omega
    · have := redLoop_len l (out ++ [y]); simp at this ⊢; omega
theorem reducedL_len (f : List (List FLit)) : (reducedL f).length ≤ f.length := by
  have := redLoop_len (sortO f) []
  rw [(sortO_perm f).length_eq] at this; simpa [reducedL] using this
theorem reducedL_V {n : Int} {f : List (List FLit)} (h : vF n f) : vF n (reducedL f) := fun l hl => h l (reducedL_mem hl)
/-- All conjunctions of a term of the one and one of the other. -/
def prodL (f g : List (List FLit)) : List (List FLit) := f.flatMap fun a => g.filterMap fun b => bothL a b
def bigL (f g : List (List FLit)) : List (List FLit) × List (List FLit) := if 40000 < f.length * g.length then (reducedL f, reducedL g) else (f, g)
/-- The conjunction of two formulas; none: too many terms, even before they are reduced. -/
def bothF (f g : List (List FLit)) : Option (List (List FLit)) :=
  if 40000 < (bigL f g).1.length * (bigL f g).2.length then none else some (reducedL (prodL (bigL f g).1 (bigL f g).2))
theorem prodL_cons (a : List FLit) (f g : List (List FLit)) : prodL (a :: f) g = (g.filterMap fun b => bothL a b) ++ prodL f g := rfl
theorem prodL_len : ∀ (f g : List (List FLit)), (prodL f g).length ≤ f.length * g.length
  | [], g => by simp [prodL]
  | a :: f, g => by
    rw [prodL_cons, List.length_append, List.length_cons, Nat.succ_mul]
    have h1 := prodL_len f g
    have h2 := List.length_filterMap_le (fun b => bothL a b) g
    omega
theorem prodL_V {n : Int} {f g : List (List FLit)} (hf : vF n f) (hg : vF n g) : vF n (prodL f g) := by
  intro c hc
  obtain ⟨a, ha, h⟩ := List.mem_flatMap.1 hc
  obtain ⟨b, hb, h⟩ := List.mem_filterMap.1 h
  exact bothL_V h (hf a ha) (hg b hb)
theorem bothF_V {n : Int} {f g h : List (List FLit)} (e : bothF f g = some h) (hf : vF n f) (hg : vF n g) : vF n h := by
  unfold bothF at e
  split at e
  · simp at e
  · injection e with e; subst e
    refine reducedL_V (prodL_V ?_ ?_)
    · unfold bigL; split
      · exact reducedL_V hf
      · exact hf
    · unfold bigL; split
      · exact reducedL_V hg
      · exact hg
theorem bothF_len {f g h : List (List FLit)} (e : bothF f g = some h) : h.length ≤ 40000 := by
  unfold bothF at e
  split at e
  · simp at e
  · injection e with e; subst e
    have := reducedL_len (prodL (bigL f g).1 (bigL f g).2)
    have := prodL_len (bigL f g).1 (bigL f g).2
    omega
/-- What the conjunction of two formulas comes back as. -/
def retB (σ : Store) : Option (List (List FLit)) → Cont
  | none => fun r σ' => r = .tuple [.slice .nil [], .bool false] ∧ σ' = σ
  | some l => fun r σ' => r = .tuple [.slice (.grow σ.length) (l.map encC), .bool (decide (l.length ≤ 400))] ∧ σ' = σ ++ [.grow 1 l.length]
def retBf (σ : Store) : Option (List (List FLit)) → Cont
  | none => fun r σ' => r = .tuple [.slice .nil [], .bool false] ∧ σ' = σ
  | some l => fun r σ' => r = .tuple [.slice (.grow σ.length) (l.map encCf), .bool (decide (l.length ≤ 400))] ∧ σ' = σ ++ [.grow 1 l.length]
theorem retBf_wk (σ : Store) (o : Option (List (List FLit))) (r : AV) (σ' : Store) (h : retBf σ o r σ') : ∃ r', Wk r r' ∧ retB σ o r' σ' := by
  cases o with
  | none => exact ⟨r, .refl _, h⟩
  | some l => obtain ⟨rfl, rfl⟩ := h; exact ⟨_, Wk.tuple (.cons (Wk.cf _ _) (WkL.one (.refl _))), rfl, rfl⟩
def c_Both : CCode := .seq (.ops [⟨some 4, .move (.lit (.slice .nil [])), none, []⟩, ⟨some 5, .move (.lit (.bool false)), none, []⟩]) (.seq (.seq (.ops [⟨some 13, .move (.tmp 0), none, []⟩, ⟨some 14, .blen 1 (.tmp 13), none, []⟩, ⟨some 15, .move (.tmp 1), none, []⟩, ⟨some 16, .blen 1 (.tmp 15), none, []⟩, ⟨some 17, .bin .mul .none (.tmp 14) (.tmp 16), none, []⟩, ⟨some 18, .bin .gtr .none (.tmp 17) (.lit (.int .i64 40000)), none, []⟩]) (.cond (.tmp 18) (.ops [⟨some 19, .move (.tmp 0), none, []⟩, ⟨some 20, .call (.lit (.func 29 [])) [.tmp 19], none, []⟩, ⟨some 21, .move (.tmp 1), none, []⟩, ⟨some 22, .call (.lit (.func 29 [])) [.tmp 21], none, []⟩, ⟨some 0, .move (.tmp 20), none, []⟩, ⟨some 1, .move (.tmp 22), none, []⟩]) .skip)) (.seq (.seq (.ops [⟨some 23, .move (.tmp 0), none, []⟩, ⟨some 24, .blen 1 (.tmp 23), none, []⟩, ⟨some 25, .move (.tmp 1), none, []⟩, ⟨some 26, .blen 1 (.tmp 25), none, []⟩, ⟨some 27, .bin .mul .none (.tmp 24) (.tmp 26), none, []⟩, ⟨some 28, .bin .gtr .none (.tmp 27) (.lit (.int .i64 40000)), none, []⟩]) (.cond (.tmp 28) (.seq (.ops [⟨some 4, .move (.lit (.slice .nil [])), none, []⟩, ⟨some 5, .move (.lit (.bool false)), none, []⟩]) .ret) .skip)) (.seq (.ops [⟨some 6, .move (.lit (.slice .nil [])), none, []⟩]) (.seq (.seq (.ops [⟨some 29, .move (.tmp 0), none, []⟩, ⟨some 30, .blen 1 (.tmp 29), none, []⟩, ⟨some 31, .move (.lit (.int .i64 0)), none, []⟩]) (.block 0 (.loop (.seq (.ops [⟨some 32, .bin .lss .none (.tmp 31) (.tmp 30), none, []⟩]) (.seq (.cond (.tmp 32) .skip (.exit 0)) (.seq (.block 1 (.seq (.ops [⟨some 33, .iaddr 1 (.tmp 29) (.tmp 31), none, []⟩, ⟨some 34, .load none (.tmp 33), none, []⟩, ⟨some 8, .move (.tmp 34), none, []⟩]) (.seq (.ops [⟨some 35, .move (.tmp 1), none, []⟩, ⟨some 36, .blen 1 (.tmp 35), none, []⟩, ⟨some 37, .move (.lit (.int .i64 0)), none, []⟩]) (.block 2 (.loop (.seq (.ops [⟨some 38, .bin .lss .none (.tmp 37) (.tmp 36), none, []⟩]) (.seq (.cond (.tmp 38) .skip (.exit 2)) (.seq (.block 3 (.seq (.ops [⟨some 39, .iaddr 1 (.tmp 35) (.tmp 37), none, []⟩, ⟨some 40, .load none (.tmp 39), none, []⟩, ⟨some 10, .move (.tmp 40), none, []⟩]) (.seq (.ops [⟨some 42, .move (.tmp 8), none, []⟩, ⟨some 43, .move (.tmp 10), none, []⟩, ⟨some 44, .call (.lit (.func 86 [])) [.tmp 42, .tmp 43], none, []⟩, ⟨some 41, .move (.tmp 44), none, []⟩, ⟨some 45, .extract (.tmp 41) 0, none, []⟩, ⟨some 46, .extract (.tmp 41) 1, none, []⟩, ⟨some 11, .move (.tmp 45), none, []⟩, ⟨some 12, .move (.tmp 46), none, []⟩]) (.seq (.ops [⟨some 47, .move (.tmp 12), none, []⟩]) (.cond (.tmp 47) (.ops [⟨some 48, .move (.tmp 6), none, []⟩, ⟨some 49, .move (.tmp 11), none, []⟩, ⟨some 50, .bslice 1 [.tmp 49] false, none, []⟩, ⟨some 51, .bappend 1 24 (.tmp 48) (.tmp 50) false, none, []⟩, ⟨some 6, .move (.tmp 51), none, []⟩]) .skip))))) (.ops [⟨some 52, .bin .add .none (.tmp 37) (.lit (.int .i64 1)), none, []⟩, ⟨some 37, .move (.tmp 52), none, []⟩]))))))))) (.ops [⟨some 53, .bin .add .none (.tmp 31) (.lit (.int .i64 1)), none, []⟩, ⟨some 31, .move (.tmp 53), none, []⟩]))))))) (.seq (.ops [⟨some 54, .move (.tmp 6), none, []⟩, ⟨some 55, .call (.lit (.func 29 [])) [.tmp 54], none, []⟩, ⟨some 6, .move (.tmp 55), none, []⟩]) (.seq (.ops [⟨some 56, .move (.tmp 6), none, []⟩, ⟨some 57, .move (.tmp 6), none, []⟩, ⟨some 58, .blen 1 (.tmp 57), none, []⟩, ⟨some 59, .bin .leq .none (.tmp 58) (.lit (.int .i64 400)), none, []⟩, ⟨some 4, .move (.tmp 56), none, []⟩, ⟨some 5, .move (.tmp 59), none, []⟩]) .ret))))))
set_option maxRecDepth 20000 in
theorem Both_specF (n : Int) (hn : n ≤ 1000000) (f g : List (List FLit)) (tok tok' : Tok) (σ : Store) (hf : f.length ≤ 1000000) (hg : g.length ≤ 1000000) (vf : vF n f) (vg : vF n g) :
    ACalls Tryz.prog 64 [.slice tok (f.map encC), .slice tok' (g.map encC)] σ (retBf σ (bothF f g)) := by
  refine ACalls.intro (rs := [(.tmp 4), (.tmp 5)]) (by kernel_rfl) { own := [], ghosts := [] } Tryz.func64 (c := Tryz.f64.body.getD .skip) (by kernel_rfl) (by decide) (by rw [show Tryz.f64.ntmps = 60 by kernel_rfl]; exact Nat.le_of_ble_eq_true rfl) (by kernel_rfl) ?_
  intro hσ hids
  rw [show comp Tryz.prog { own := [], ghosts := [] } (Tryz.f64.body.getD .skip) = c_Both by kernel_rfl, show Tryz.f64.ntmps = 60 by kernel_rfl]
  unfold c_Both
  have hif : Ids σ.length (.slice tok (f.map encC)) := hids _ (by simp)
  have hig : Ids σ.length (.slice tok' (g.map encC)) := hids _ (by simp)
  have hprod : ∀ {a b : Nat}, a ≤ 1000000 → b ≤ 1000000 → IntKind.i64.wrap ((a : Int) * b) = ((a * b : Nat) : Int) := by
    intro a b ha hb
    have := Nat.mul_le_mul ha hb
    rw [wrap_ok (by rw [← Int.natCast_mul]; omega), Int.natCast_mul]
  have hw1 := hprod hf hg
  by_cases h1 : ((f.length * g.length : Nat) : Int) > 40000
  · simp only [go_sem, Int.reduceToNat, Int.reduceLE, Int.reduceLT, Nat.reduceBEq, Nat.reduceLT, Nat.reduceAdd, Nat.reduceLeDiff, hw1, h1]
    refine (reduced_spec f tok _ (vf.ok hn (by omega))).mono ?_
    rintro _ _ ⟨rfl, rfl⟩
    simp only [go_sem, Int.reduceToNat, Int.reduceLE, Int.reduceLT, Nat.reduceBEq, Nat.reduceLT, Nat.reduceAdd, Nat.reduceLeDiff]
    refine (reduced_spec g tok' _ (vg.ok hn (by omega))).mono ?_
    rintro _ _ ⟨rfl, rfl⟩
    have hbg : bigL f g = (reducedL f, reducedL g) := by unfold bigL; rw [if_pos (by omega)]
    unfold bothF
    rw [hbg]
    have hl1 := reducedL_len f
    have hl2 := reducedL_len g
    have vf' := reducedL_V vf
    have vg' := reducedL_V vg
    dsimp only
    generalize reducedL f = f' at *
    generalize reducedL g = g' at *
    have hw2 : IntKind.i64.wrap ((f'.length : Int) * g'.length) = ((f'.length * g'.length : Nat) : Int) := hprod (by omega) (by omega)
    by_cases h2 : ((f'.length * g'.length : Nat) : Int) > 40000
    · rw [if_pos (by omega)]
      simp only [go_sem, Int.reduceToNat, Int.reduceLE, Int.reduceLT, Nat.reduceBEq, Nat.reduceLT, Nat.reduceAdd, Nat.reduceLeDiff, hw2, h2]
      first | exact rtl (.slice .nil []) (.bool false) ⟨rfl, rfl⟩ | exact rtl0 (.slice .nil []) (.bool false) ⟨rfl, rfl⟩
    rw [if_neg (by omega)]
    simp only [go_sem, Int.reduceToNat, Int.reduceLE, Int.reduceLT, Nat.reduceBEq, Nat.reduceLT, Nat.reduceAdd, Nat.reduceLeDiff, hw2, h2]
    have hp1 : f'.length ≤ 1073741824 := by omega
    have hs1 : ∀ n, IdsS (σ ++ [AObj.grow 1 n]).length (σ ++ [AObj.grow 1 n]) := fun n => idsS_push hσ trivial
    have hpl := prodL_len f' g'
    refine wpc_while (fun (q : Nat × List (List FLit)) => [(6, .slice (.grow σ.length) (q.2.map encC)), (1, .slice .unk (g'.map encC)), (29, .slice .unk (f'.map encC)), (30, .int .i64 f'.length), (31, .int .i64 q.1)]) (fun q => σ ++ [.grow 1 q.2.length])
      (fun q => q.1 ≤ f'.length ∧ prodL f' g' = q.2 ++ prodL (f'.drop q.1) g') (fun q => f'.length - q.1) (0, []) ⟨Nat.zero_le _, rfl⟩ (by first | exact .begin0 6 1 _ (Nat.le_refl _) tellT hσ | exact .begin 6 1 _ (Nat.le_refl _) tellT hσ) ?_
    rintro ⟨i, out⟩ ⟨hi, hv⟩ K hK hE hR
    dsimp only at hi hv ⊢
    have hol : out.length ≤ 40000 := by have := congrArg List.length hv; rw [List.length_append] at this; omega
    by_cases h : i < f'.length
    · obtain ⟨a, hx⟩ := get_ex h; have hlt : ((i : Int) < (f'.length : Int)) := (by omega); have hw : IntKind.i64.wrap ((i : Int) + 1) = ((i + 1 : Nat) : Int) := (by rw [wrap_ok (by omega)]; omega)
      have ha := vf' a (List.mem_of_getElem? hx)
      rw [drop_cons hx, prodL_cons, ← List.append_assoc] at hv
      simp only [go_sem, Int.reduceToNat, Int.reduceLE, Int.reduceLT, Nat.reduceBEq, Nat.reduceLT, Nat.reduceAdd, Nat.reduceLeDiff, hlt, hx, encC]
      refine wpc_while (fun (q : Nat × List (List FLit)) => [(6, .slice (.grow σ.length) (q.2.map encC)), (1, .slice .unk (g'.map encC)), (8, .slice .unk (a.map encLit)), (29, .slice .unk (f'.map encC)), (30, .int .i64 f'.length), (31, .int .i64 i), (35, .slice .unk (g'.map encC)), (36, .int .i64 g'.length), (37, .int .i64 q.1)]) (fun q => σ ++ [.grow 1 q.2.length])
        (fun q => q.1 ≤ g'.length ∧ prodL f' g' = (q.2 ++ (g'.drop q.1).filterMap fun b => bothL a b) ++ prodL (f'.drop (i + 1)) g') (fun q => g'.length - q.1) (0, out) ⟨Nat.zero_le _, hv⟩ (by (try dsimp only); first | exact ghL (hs1 out.length) | exact ghL0 (hs1 out.length)) ?_
      rintro ⟨j, out⟩ ⟨hj', hvj⟩ K' hK' hE' hR'
      dsimp only at hj' hvj ⊢
      have hol : out.length ≤ 40000 := by have := congrArg List.length hvj; rw [List.length_append, List.length_append] at this; omega
      by_cases hj : j < g'.length
      · obtain ⟨b, hxj⟩ := get_ex hj; have hltj : ((j : Int) < (g'.length : Int)) := (by omega); have hwj : IntKind.i64.wrap ((j : Int) + 1) = ((j + 1 : Nat) : Int) := (by rw [wrap_ok (by omega)]; omega)
        have hb := vg' b (List.mem_of_getElem? hxj)
        rw [drop_cons hxj, List.filterMap_cons] at hvj
        simp only [go_sem, Int.reduceToNat, Int.reduceLE, Int.reduceLT, Nat.reduceBEq, Nat.reduceLT, Nat.reduceAdd, Nat.reduceLeDiff, hltj, hxj, encC]
        refine (both_spec a b .unk .unk _ (ha.ok hn).1 (hb.ok hn).1 (ha.ok hn).2 (hb.ok hn).2).is ?_
        cases hab : bothL a b with
        | none =>
          simp only [go_sem, Int.reduceToNat, Int.reduceLE, Int.reduceLT, Nat.reduceBEq, Nat.reduceLT, Nat.reduceAdd, Nat.reduceLeDiff, resB]
          rw [hab] at hvj
          refine hK' _ _ (j + 1, out) ⟨by simp only []; omega, hvj⟩ (by simp only []; omega) ?_
          exact (by (try dsimp only); (try simp only [ hwj]); first | exact ghL (hs1 out.length) | exact ghL0 (hs1 out.length))
        | some c =>
          have hc : out.map encC ++ [[AV.slice .unk (c.map encLit)]] = (out ++ [c]).map encC := by simp [encC]
          have hbig : bigLen (out.length + 1) 24 := big_ok (by omega) (by omega)
          simp only [go_sem, Int.reduceToNat, Int.reduceLE, Int.reduceLT, Nat.reduceBEq, Nat.reduceLT, Nat.reduceAdd, Nat.reduceLeDiff, resB, hc, hbig]
          rw [hab] at hvj
          refine hK' _ _ (j + 1, out ++ [c]) ⟨by simp only []; omega, by rw [hvj]; simp⟩ (by simp only []; omega) ?_
          simp only [List.length_append, List.length_cons, List.length_nil, Nat.reduceAdd]
          exact (by (try dsimp only); (try simp only [ hwj]); first | exact ghL (hs1 (out.length + 1)) | exact ghL0 (hs1 (out.length + 1)))
      · have hltj : ¬ ((j : Int) < (g'.length : Int)) := by omega
        rw [drop_len hj, List.filterMap_nil, List.append_nil] at hvj
        simp only [go_sem, Int.reduceToNat, Int.reduceLE, Int.reduceLT, Nat.reduceBEq, Nat.reduceLT, Nat.reduceAdd, Nat.reduceLeDiff, hltj, hE']
        refine hK _ _ ((i + 1, out)) (⟨by simp only []; omega, hvj⟩) (by first | omega | (simp only []; omega) | (simp; omega)) ?_; (try dsimp only); (try simp only [ hw]); first | exact ghL (hs1 out.length) | exact ghL0 (hs1 out.length)
    · have hlt : ¬ ((i : Int) < (f'.length : Int)) := by omega
      rw [drop_len h] at hv
      have hv : prodL f' g' = out := by rw [hv]; simp [prodL]
      simp only [go_sem, Int.reduceToNat, Int.reduceLE, Int.reduceLT, Nat.reduceBEq, Nat.reduceLT, Nat.reduceAdd, Nat.reduceLeDiff, hlt, hE]
      refine (reduced_specF out _ _ ⟨by omega, fun l hl => by rw [← hv] at hl; exact (prodL_V vf' vg' l hl).ok hn⟩).mono ?_
      rintro _ _ ⟨rfl, rfl⟩
      rw [hv]
      by_cases h4 : ((reducedL out).length : Int) ≤ 400
      · simp only [go_sem, Int.reduceToNat, Int.reduceLE, Int.reduceLT, Nat.reduceBEq, Nat.reduceLT, Nat.reduceAdd, Nat.reduceLeDiff, h4]
        refine ret_tok (fun x _ => ids_encCf x) 1 1 (reducedL out).length (reducedL out) (.bool true) hσ rfl rfl rfl rfl (.bool _) ?_
        exact ⟨by rw [decide_eq_true (by omega : (reducedL out).length ≤ 400)], rfl⟩
      · simp only [go_sem, Int.reduceToNat, Int.reduceLE, Int.reduceLT, Nat.reduceBEq, Nat.reduceLT, Nat.reduceAdd, Nat.reduceLeDiff, h4]
        refine ret_tok (fun x _ => ids_encCf x) 1 1 (reducedL out).length (reducedL out) (.bool false) hσ rfl rfl rfl rfl (.bool _) ?_
        exact ⟨by rw [decide_eq_false (by omega : ¬ (reducedL out).length ≤ 400)], rfl⟩
  · have hbg : bigL f g = (f, g) := by unfold bigL; rw [if_neg (by omega)]
    unfold bothF
    rw [hbg]
    dsimp only
    rw [if_neg (by omega)]
    simp only [go_sem, Int.reduceToNat, Int.reduceLE, Int.reduceLT, Nat.reduceBEq, Nat.reduceLT, Nat.reduceAdd, Nat.reduceLeDiff, hw1, h1]
    have vf' := vf
    have vg' := vg
    have hif' := hif
    generalize f = f' at *
    generalize g = g' at *
    have hp1 : f'.length ≤ 1073741824 := by omega
    have hs1 : ∀ n, IdsS (σ ++ [AObj.grow 1 n]).length (σ ++ [AObj.grow 1 n]) := fun n => idsS_push hσ trivial
    have hpl := prodL_len f' g'
    refine wpc_while (fun (q : Nat × List (List FLit)) => [(6, .slice (.grow σ.length) (q.2.map encC)), (1, .slice .unk (g'.map encC)), (29, .slice .unk (f'.map encC)), (30, .int .i64 f'.length), (31, .int .i64 q.1)]) (fun q => σ ++ [.grow 1 q.2.length])
      (fun q => q.1 ≤ f'.length ∧ prodL f' g' = q.2 ++ prodL (f'.drop q.1) g') (fun q => f'.length - q.1) (0, []) ⟨Nat.zero_le _, rfl⟩ (by first | exact .begin0 6 1 _ (Nat.le_refl _) tellT hσ | exact .begin 6 1 _ (Nat.le_refl _) tellT hσ) ?_
    rintro ⟨i, out⟩ ⟨hi, hv⟩ K hK hE hR
    dsimp only at hi hv ⊢
    have hol : out.length ≤ 40000 := by have := congrArg List.length hv; rw [List.length_append] at this; omega
    by_cases h : i < f'.length
    · obtain ⟨a, hx⟩ := get_ex h; have hlt : ((i : Int) < (f'.length : Int)) := (by omega); have hw : IntKind.i64.wrap ((i : Int) + 1) = ((i + 1 : Nat) : Int) := (by rw [wrap_ok (by omega)]; omega)
      have ha := vf' a (List.mem_of_getElem? hx)
      rw [drop_cons hx, prodL_cons, ← List.append_assoc] at hv
      simp only [go_sem, Int.reduceToNat, Int.reduceLE, Int.reduceLT, Nat.reduceBEq, Nat.reduceLT, Nat.reduceAdd, Nat.reduceLeDiff, hlt, hx, encC]
      refine wpc_while (fun (q : Nat × List (List FLit)) => [(6, .slice (.grow σ.length) (q.2.map encC)), (1, .slice .unk (g'.map encC)), (8, .slice .unk (a.map encLit)), (29, .slice .unk (f'.map encC)), (30, .int .i64 f'.length), (31, .int .i64 i), (35, .slice .unk (g'.map encC)), (36, .int .i64 g'.length), (37, .int .i64 q.1)]) (fun q => σ ++ [.grow 1 q.2.length])
        (fun q => q.1 ≤ g'.length ∧ prodL f' g' = (q.2 ++ (g'.drop q.1).filterMap fun b => bothL a b) ++ prodL (f'.drop (i + 1)) g') (fun q => g'.length - q.1) (0, out) ⟨Nat.zero_le _, hv⟩ (by (try dsimp only); first | exact ghL (hs1 out.length) | exact ghL0 (hs1 out.length)) ?_
      rintro ⟨j, out⟩ ⟨hj', hvj⟩ K' hK' hE' hR'
      dsimp only at hj' hvj ⊢
      have hol : out.length ≤ 40000 := by have := congrArg List.length hvj; rw [List.length_append, List.length_append] at this; omega
      by_cases hj : j < g'.length
      · obtain ⟨b, hxj⟩ := get_ex hj; have hltj : ((j : Int) < (g'.length : Int)) := (by omega); have hwj : IntKind.i64.wrap ((j : Int) + 1) = ((j + 1 : Nat) : Int) := (by rw [wrap_ok (by omega)]; omega)
        have hb := vg' b (List.mem_of_getElem? hxj)
        rw [drop_cons hxj, List.filterMap_cons] at hvj
        simp only [go_sem, Int.reduceToNat, Int.reduceLE, Int.reduceLT, Nat.reduceBEq, Nat.reduceLT, Nat.reduceAdd, Nat.reduceLeDiff, hltj, hxj, encC]
        refine (both_spec a b .unk .unk _ (ha.ok hn).1 (hb.ok hn).1 (ha.ok hn).2 (hb.ok hn).2).is ?_
        cases hab : bothL a b with
        | none =>
          simp only [go_sem, Int.reduceToNat, Int.reduceLE, Int.reduceLT, Nat.reduceBEq, Nat.reduceLT, Nat.reduceAdd, Nat.reduceLeDiff, resB]
          rw [hab] at hvj
          refine hK' _ _ (j + 1, out) ⟨by simp only []; omega, hvj⟩ (by simp only []; omega) ?_
          exact (by (try dsimp only); (try simp only [ hwj]); first | exact ghL (hs1 out.length) | exact ghL0 (hs1 out.length))
        | some c =>
          have hc : out.map encC ++ [[AV.slice .unk (c.map encLit)]] = (out ++ [c]).map encC := by simp [encC]
          have hbig : bigLen (out.length + 1) 24 := big_ok (by omega) (by omega)
          simp only [go_sem, Int.reduceToNat, Int.reduceLE, Int.reduceLT, Nat.reduceBEq, Nat.reduceLT, Nat.reduceAdd, Nat.reduceLeDiff, resB, hc, hbig]
          rw [hab] at hvj
          refine hK' _ _ (j + 1, out ++ [c]) ⟨by simp only []; omega, by rw [hvj]; simp⟩ (by simp only []; omega) ?_
          simp only [List.length_append, List.length_cons, List.length_nil, Nat.reduceAdd]
          exact (by (try dsimp only); (try simp only [ hwj]); first | exact ghL (hs1 (out.length + 1)) | exact ghL0 (hs1 (out.length + 1)))
      · have hltj : ¬ ((j : Int) < (g'.length : Int)) := by omega
        rw [drop_len hj, List.filterMap_nil, List.append_nil] at hvj
        simp only [go_sem, Int.reduceToNat, Int.reduceLE, Int.reduceLT, Nat.reduceBEq, Nat.reduceLT, Nat.reduceAdd, Nat.reduceLeDiff, hltj, hE']
        refine hK _ _ ((i + 1, out)) (⟨by simp only []; omega, hvj⟩) (by first | omega | (simp only []; omega) | (simp; omega)) ?_; (try dsimp only); (try simp only [ hw]); first | exact ghL (hs1 out.length) | exact ghL0 (hs1 out.length)
    · have hlt : ¬ ((i : Int) < (f'.length : Int)) := by omega
      rw [drop_len h] at hv
      have hv : prodL f' g' = out := by rw [hv]; simp [prodL]
      simp only [go_sem, Int.reduceToNat, Int.reduceLE, Int.reduceLT, Nat.reduceBEq, Nat.reduceLT, Nat.reduceAdd, Nat.reduceLeDiff, hlt, hE]
      refine (reduced_specF out _ _ ⟨by omega, fun l hl => by rw [← hv] at hl; exact (prodL_V vf' vg' l hl).ok hn⟩).mono ?_
      rintro _ _ ⟨rfl, rfl⟩
      rw [hv]
      by_cases h4 : ((reducedL out).length : Int) ≤ 400
      · simp only [go_sem, Int.reduceToNat, Int.reduceLE, Int.reduceLT, Nat.reduceBEq, Nat.reduceLT, Nat.reduceAdd, Nat.reduceLeDiff, h4]
        refine ret_tok (fun x _ => ids_encCf x) 1 1 (reducedL out).length (reducedL out) (.bool true) hσ rfl rfl rfl rfl (.bool _) ?_
        exact ⟨by rw [decide_eq_true (by omega : (reducedL out).length ≤ 400)], rfl⟩
      · simp only [go_sem, Int.reduceToNat, Int.reduceLE, Int.reduceLT, Nat.reduceBEq, Nat.reduceLT, Nat.reduceAdd, Nat.reduceLeDiff, h4]
        refine ret_tok (fun x _ => ids_encCf x) 1 1 (reducedL out).length (reducedL out) (.bool false) hσ rfl rfl rfl rfl (.bool _) ?_
        exact ⟨by rw [decide_eq_false (by omega : ¬ (reducedL out).length ≤ 400)], rfl⟩
theorem Both_spec (n : Int) (hn : n ≤ 1000000) (f g : List (List FLit)) (tok tok' : Tok) (σ : Store) (hf : f.length ≤ 1000000) (hg : g.length ≤ 1000000) (vf : vF n f) (vg : vF n g) :
    ACalls Tryz.prog 64 [.slice tok (f.map encC), .slice tok' (g.map encC)] σ (retB σ (bothF f g)) := (Both_specF n hn f g tok tok' σ hf hg vf vg).wkC (retBf_wk σ _)
end Go.Proofs.YtbnhijapbnfohaaGreat
namespace Go.Proofs.YtbnhijapbnfohaaGreat
open Go.Ahl
def c_cloneT : CCode := .seq (.ops [⟨some 2, .move (.lit (.slice .nil [])), none, []⟩]) (.seq (.seq (.ops [⟨some 3, .move (.tmp 0), none, []⟩, ⟨some 4, .bin .eql .slice (.tmp 3) (.lit (.slice .nil [])), none, []⟩]) (.cond (.tmp 4) (.seq (.ops [⟨some 2, .move (.lit (.slice .nil [])), none, []⟩]) .ret) .skip)) (.seq (.ops [⟨some 5, .bslice 1 [] false, none, []⟩, ⟨some 6, .move (.tmp 0), none, []⟩, ⟨some 7, .bappend 1 24 (.tmp 5) (.tmp 6) false, none, []⟩, ⟨some 2, .move (.tmp 7), none, []⟩]) .ret))
set_option maxRecDepth 20000 in
theorem cloneT_spec (f : List (List FLit)) (tok : Tok) (σ : Store) (hf : f.length ≤ 1073741824) :
    ACalls Tryz.prog 42 [.slice tok (f.map encC)] σ (fun r σ' => r = .slice (.grow σ.length) (f.map encC) ∧ σ' = σ ++ [.grow 1 f.length]) := by
  refine ACalls.intro (rs := [(.tmp 2)]) (by kernel_rfl) { own := [], ghosts := [] } Tryz.func42 (c := Tryz.f42.body.getD .skip) (by kernel_rfl) (by decide) (by rw [show Tryz.f42.ntmps = 8 by kernel_rfl]; exact Nat.le_of_ble_eq_true rfl) (by kernel_rfl) ?_
  intro hσ hids
  rw [show comp Tryz.prog { own := [], ghosts := [] } (Tryz.f42.body.getD .skip) = c_cloneT by kernel_rfl, show Tryz.f42.ntmps = 8 by kernel_rfl]
  unfold c_cloneT
  have hbig : bigLen f.length 24 := big_ok (by omega) (by omega)
  have hσ1 : ∀ n, IdsS (σ ++ [AObj.grow 1 n]).length (σ ++ [AObj.grow 1 n]) := fun n => idsS_push hσ trivial
  simp only [go_sem, Int.reduceToNat, Int.reduceLE, Int.reduceLT, Nat.reduceBEq, Nat.reduceLT, Nat.reduceAdd, Nat.reduceLeDiff]
  intro b hb
  cases b
  · have hall : ∀ x ∈ f, (encC x).length = 1 ∧ (encC x).all AV.one = true := fun x _ => ⟨rfl, rfl⟩
    simp only [go_sem, Int.reduceToNat, Int.reduceLE, Int.reduceLT, Nat.reduceBEq, Nat.reduceLT, Nat.reduceAdd, Nat.reduceLeDiff, hbig]
    refine ⟨hall, ?_⟩
    refine ret_gh (v := .slice (.grow σ.length) (f.map encC)) (σ' := σ ++ [.grow 1 f.length]) ?_ (by simp) (hσ1 _) (ids_grow_map ids_encC (by simp)) ⟨rfl, rfl⟩
    exact (by (try dsimp only); first | exact ghL (hσ1 f.length) | exact ghL0 (hσ1 f.length))
  · have hl0 : f = [] := by
      cases f with
      | nil => rfl
      | cons x l => exact absurd (hb (by simp)) (by simp)
    subst hl0
    simp only [go_sem, Int.reduceToNat, Int.reduceLE, Int.reduceLT, Nat.reduceBEq, Nat.reduceLT, Nat.reduceAdd, Nat.reduceLeDiff]
    refine ret_gh (v := .slice (.grow σ.length) []) (σ' := σ ++ [.grow 1 0]) ?_ (by simp) (hσ1 _) (ids_nil _ (fun id e => by injection e with e; simp; omega)) ⟨rfl, rfl⟩
    exact .begin0 2 1 [] (Nat.le_refl _) tellT hσ
/-! ### Negation -/
def negL (l : List FLit) : List (List FLit) := l.map fun x => [⟨x.fact, !x.neg⟩]
def negFrom (out : List (List FLit)) : List (List FLit) → Option (List (List FLit))
  | [] => some out
  | l :: f => match bothF out (negL l) with
    | none => none
    | some o => if o.length ≤ 400 then negFrom o f else none
/-- The negation of a formula; none: too many terms. -/
def negF (f : List (List FLit)) : Option (List (List FLit)) := negFrom [[]] f
theorem negL_V {n : Int} {l : List FLit} (h : cV n l) : vF n (negL l) := by
  intro c hc
  obtain ⟨x, hx, rfl⟩ := List.mem_map.1 hc
  have := condB_mem h x hx
  exact condB_mk this.1 this.2 rfl
theorem cV_len {n : Int} (hn : n ≤ 1000000) {l : List FLit} (h : cV n l) : l.length ≤ 1000000 := by
  rcases condB_len h with rfl | h
  · simp
  · omega
theorem negFrom_V {n : Int} : ∀ {f out r : List (List FLit)}, vF n f → vF n out → negFrom out f = some r → vF n r
  | [], out, r, _, ho, h => by simp [negFrom] at h; subst h; exact ho
  | l :: f, out, r, hf, ho, h => by
    rw [negFrom] at h
    cases hb : bothF out (negL l) with
    | none => rw [hb] at h; simp at h
    | some o =>
      rw [hb] at h
      simp only at h
      split at h
      · exact negFrom_V (fun l hl => hf l (List.mem_cons_of_mem _ hl)) (bothF_V hb ho (negL_V (hf l List.mem_cons_self))) h
      · simp at h
theorem nil_V (n : Int) : vF n [[]] := by intro l hl; rw [List.mem_singleton.1 hl]; rfl
theorem negF_V {n : Int} {f r : List (List FLit)} (hf : vF n f) (h : negF f = some r) : vF n r := negFrom_V hf (nil_V n) h
theorem negFrom_len : ∀ {f out r : List (List FLit)}, out.length ≤ 400 → negFrom out f = some r → r.length ≤ 400
  | [], out, r, ho, h => by simp [negFrom] at h; subst h; exact ho
  | l :: f, out, r, ho, h => by
    rw [negFrom] at h
    cases hb : bothF out (negL l) with
    | none => rw [hb] at h; simp at h
    | some o =>
      rw [hb] at h
      simp only at h
      split at h
      · exact negFrom_len ‹_› h
      · simp at h
theorem negF_len {f r : List (List FLit)} (h : negF f = some r) : r.length ≤ 400 := negFrom_len (by simp) h
/-- What a negation comes back as. -/
def retN (σ : Store) : Option (List (List FLit)) → Cont
  | none => fun r σ' => r = .tuple [.slice .nil [], .bool false] ∧ σ' = σ
  | some l => fun r σ' => r = .tuple [.slice (.grow σ.length) (l.map encC), .bool true] ∧ σ' = σ ++ [.grow 1 l.length]
def retNf (σ : Store) : Option (List (List FLit)) → Cont
  | none => fun r σ' => r = .tuple [.slice .nil [], .bool false] ∧ σ' = σ
  | some l => fun r σ' => r = .tuple [.slice (.grow σ.length) (l.map encCf), .bool true] ∧ σ' = σ ++ [.grow 1 l.length]
theorem retNf_wk (σ : Store) (o : Option (List (List FLit))) (r : AV) (σ' : Store) (h : retNf σ o r σ') : ∃ r', Wk r r' ∧ retN σ o r' σ' := by
  cases o with
  | none => exact ⟨r, .refl _, h⟩
  | some l => obtain ⟨rfl, rfl⟩ := h; exact ⟨_, Wk.tuple (.cons (Wk.cf _ _) (WkL.one (.refl _))), rfl, rfl⟩
def c_negated : CCode := .seq (.ops [⟨some 2, .move (.lit (.slice .nil [])), none, []⟩, ⟨some 3, .move (.lit (.bool false)), none, []⟩]) (.seq (.ops [⟨some 11, .bslice 1 [.lit (.slice .nil [])] false, none, []⟩, ⟨some 4, .move (.tmp 11), none, []⟩]) (.seq (.seq (.ops [⟨some 12, .move (.tmp 0), none, []⟩, ⟨some 13, .blen 1 (.tmp 12), none, []⟩, ⟨some 14, .move (.lit (.int .i64 0)), none, []⟩]) (.block 0 (.loop (.seq (.ops [⟨some 15, .bin .lss .none (.tmp 14) (.tmp 13), none, []⟩]) (.seq (.cond (.tmp 15) .skip (.exit 0)) (.seq (.block 1 (.seq (.ops [⟨some 16, .iaddr 1 (.tmp 12) (.tmp 14), none, []⟩, ⟨some 17, .load none (.tmp 16), none, []⟩, ⟨some 6, .move (.tmp 17), none, []⟩]) (.seq (.ops [⟨some 7, .move (.lit (.slice .nil [])), none, []⟩]) (.seq (.seq (.ops [⟨some 18, .move (.tmp 6), none, []⟩, ⟨some 19, .blen 1 (.tmp 18), none, []⟩, ⟨some 20, .move (.lit (.int .i64 0)), none, []⟩]) (.block 2 (.loop (.seq (.ops [⟨some 21, .bin .lss .none (.tmp 20) (.tmp 19), none, []⟩]) (.seq (.cond (.tmp 21) .skip (.exit 2)) (.seq (.block 3 (.seq (.ops [⟨some 22, .iaddr 2 (.tmp 18) (.tmp 20), none, []⟩, ⟨some 23, .load (some 2) (.tmp 22), none, []⟩, ⟨some 9, .alloc (.agg [.int .i64 0, .bool false]), none, []⟩, ⟨none, .store 2 (.tmp 9) (.tmp 23), none, []⟩]) (.ops [⟨some 24, .move (.tmp 7), none, []⟩, ⟨some 25, .faddr 0 (.tmp 9), none, []⟩, ⟨some 26, .load none (.tmp 25), none, []⟩, ⟨some 27, .faddr 1 (.tmp 9), none, []⟩, ⟨some 28, .load none (.tmp 27), none, []⟩, ⟨some 29, .un .not (.tmp 28), none, []⟩, ⟨some 30, .build [.int .i64 0, .bool false] [(0, 1, .tmp 26), (1, 1, .tmp 29)], none, []⟩, ⟨some 31, .bslice 2 [.tmp 30] false, none, []⟩, ⟨some 32, .bslice 1 [.tmp 31] false, none, []⟩, ⟨some 33, .bappend 1 24 (.tmp 24) (.tmp 32) false, none, []⟩, ⟨some 7, .move (.tmp 33), none, []⟩]))) (.ops [⟨some 34, .bin .add .none (.tmp 20) (.lit (.int .i64 1)), none, []⟩, ⟨some 20, .move (.tmp 34), none, []⟩]))))))) (.seq (.ops [⟨some 10, .move (.lit (.bool false)), none, []⟩]) (.seq (.ops [⟨some 36, .move (.tmp 4), none, []⟩, ⟨some 37, .move (.tmp 7), none, []⟩, ⟨some 38, .call (.lit (.func 64 [])) [.tmp 36, .tmp 37], none, []⟩, ⟨some 35, .move (.tmp 38), none, []⟩, ⟨some 39, .extract (.tmp 35) 0, none, []⟩, ⟨some 40, .extract (.tmp 35) 1, none, []⟩, ⟨some 4, .move (.tmp 39), none, []⟩, ⟨some 10, .move (.tmp 40), none, []⟩]) (.seq (.ops [⟨some 41, .move (.tmp 10), none, []⟩, ⟨some 42, .un .not (.tmp 41), none, []⟩]) (.cond (.tmp 42) (.seq (.ops [⟨some 2, .move (.lit (.slice .nil [])), none, []⟩, ⟨some 3, .move (.lit (.bool false)), none, []⟩]) .ret) .skip)))))))) (.ops [⟨some 43, .bin .add .none (.tmp 14) (.lit (.int .i64 1)), none, []⟩, ⟨some 14, .move (.tmp 43), none, []⟩]))))))) (.seq (.ops [⟨some 44, .move (.tmp 4), none, []⟩, ⟨some 2, .move (.tmp 44), none, []⟩, ⟨some 3, .move (.lit (.bool true)), none, []⟩]) .ret)))
set_option maxRecDepth 20000 in
theorem negated_specF (n : Int) (hn : n ≤ 1000000) (f : List (List FLit)) (tok : Tok) (σ : Store) (hf : f.length ≤ 1000000) (vf : vF n f) :
    ACalls Tryz.prog 44 [.slice tok (f.map encC)] σ (retNf σ (negF f)) := by
  refine ACalls.intro (rs := [(.tmp 2), (.tmp 3)]) (by kernel_rfl) { own := [], ghosts := [] } Tryz.func44 (c := Tryz.f44.body.getD .skip) (by kernel_rfl) (by decide) (by rw [show Tryz.f44.ntmps = 45 by kernel_rfl]; exact Nat.le_of_ble_eq_true rfl) (by kernel_rfl) ?_
  intro hσ hids
  rw [show comp Tryz.prog { own := [], ghosts := [] } (Tryz.f44.body.getD .skip) = c_negated by kernel_rfl, show Tryz.f44.ntmps = 45 by kernel_rfl]
  unfold c_negated
  have hif : Ids σ.length (.slice tok (f.map encC)) := hids _ (by simp)
  have hs1 : ∀ k, IdsS (σ ++ [AObj.grow 1 k]).length (σ ++ [AObj.grow 1 k]) := fun k => idsS_push hσ trivial
  have hs2 : ∀ k j, IdsS (σ ++ [AObj.grow 1 k, AObj.grow 1 j]).length (σ ++ [AObj.grow 1 k, AObj.grow 1 j]) := fun k j => idsS_app _ hσ (all_cons' trivial (all_cons' trivial all_nil'))
  simp only [go_sem, Int.reduceToNat, Int.reduceLE, Int.reduceLT, Nat.reduceBEq, Nat.reduceLT, Nat.reduceAdd, Nat.reduceLeDiff]
  refine wpc_while (fun (q : Nat × List (List FLit)) => [(4, .slice (.grow σ.length) (q.2.map encCf)), (12, .slice tok (f.map encC)), (13, .int .i64 f.length), (14, .int .i64 q.1)]) (fun q => σ ++ [.grow 1 q.2.length])
    (fun q => q.1 ≤ f.length ∧ q.2.length ≤ 400 ∧ vF n q.2 ∧ negF f = negFrom q.2 (f.drop q.1)) (fun q => f.length - q.1) (0, [[]]) ⟨Nat.zero_le _, by simp, nil_V n, rfl⟩ ?_ ?_
  · refine (Ghost.weak 4 (.slice (.grow σ.length) ([([] : List FLit)].map encCf)) (by exact Wk.slice _ (WkLL.one (WkL.one (Wk.fresh0 _))))).trans ?_
    exact (by (try dsimp only); first | exact ghL (hs1 1) | exact ghL0 (hs1 1))
  rintro ⟨i, out⟩ ⟨hi, ho, hvo, hv⟩ K hK hE hR
  dsimp only at hi ho hvo hv ⊢
  by_cases h : i < f.length
  · obtain ⟨l, hx⟩ := get_ex h; have hlt : ((i : Int) < (f.length : Int)) := (by omega); have hw : IntKind.i64.wrap ((i : Int) + 1) = ((i + 1 : Nat) : Int) := (by rw [wrap_ok (by omega)]; omega)
    have hl := vf l (List.mem_of_getElem? hx)
    have hll := cV_len hn hl
    rw [drop_cons hx, negFrom] at hv
    simp only [go_sem, Int.reduceToNat, Int.reduceLE, Int.reduceLT, Nat.reduceBEq, Nat.reduceLT, Nat.reduceAdd, Nat.reduceLeDiff, hlt, hx, encC]
    refine wpc_while (fun j => [(7, .slice (.grow (σ.length + 1)) ((negL (l.take j)).map encC)), (4, .slice (.grow σ.length) (out.map encCf)), (12, .slice tok (f.map encC)), (13, .int .i64 f.length), (14, .int .i64 i), (18, .slice .unk (l.map encLit)), (19, .int .i64 l.length), (20, .int .i64 (j : Nat))]) (fun j => σ ++ [.grow 1 out.length, .grow 1 j])
      (fun j => j ≤ l.length) (fun j => l.length - j) 0 (Nat.zero_le _) (.begin1 7 1 _ (Nat.le_refl _) tellT (hs1 _)) ?_
    intro j hj' K' hK' hE' hR'
    by_cases hj : j < l.length
    · obtain ⟨x, hxj⟩ := get_ex hj; have hltj : ((j : Int) < (l.length : Int)) := (by omega); have hwj : IntKind.i64.wrap ((j : Int) + 1) = ((j + 1 : Nat) : Int) := (by rw [wrap_ok (by omega)]; omega)
      have hc : (negL (l.take (j + 1))).map encC = (negL (l.take j)).map encC ++ [[.slice .unk [[.int .i64 x.fact, .bool (!x.neg)]]]] := by rw [take_succ' hxj]; simp [negL, encC, encLit]
      have hjl : ((negL (l.take j)).map encC).length = j := by rw [List.length_map, negL, List.length_map, List.length_take_of_le (by omega)]
      have hbig : bigLen (j + 1) 24 := big_ok (by omega) (by omega)
      have hjl' : (negL (l.take j)).length = j := by rw [negL, List.length_map, List.length_take_of_le (by omega)]
      simp only [go_sem, Int.reduceToNat, Int.reduceLE, Int.reduceLT, Nat.reduceBEq, Nat.reduceLT, Nat.reduceAdd, Nat.reduceLeDiff, hltj, hxj, encLit, hjl', hbig]
      refine hK' _ _ (j + 1) (by omega) (by omega) ?_
      refine (Ghost.weak 7 (.slice (.grow (σ.length + 1)) ((negL (l.take (j + 1))).map encC)) (by rw [hc]; exact Wk.slice _ (.append (.refl _) (WkLL.one (WkL.one (Wk.unk _ _)))))).trans ?_
      exact (by (try dsimp only); (try simp only [ hwj]); first | exact ghL (hs2 out.length (j + 1)) | exact ghL0 (hs2 out.length (j + 1)))
    · have hltj : ¬ ((j : Int) < (l.length : Int)) := by omega
      have ht : l.take j = l := List.take_of_length_le (by omega)
      rw [ht]
      simp only [go_sem, Int.reduceToNat, Int.reduceLE, Int.reduceLT, Nat.reduceBEq, Nat.reduceLT, Nat.reduceAdd, Nat.reduceLeDiff, hltj, hE']
      refine (ACalls.wk (Both_specF n hn out (negL l) _ _ _ (by omega) (by rw [negL, List.length_map]; omega) hvo (negL_V hl)) (.cons (Wk.cf _ _) (WkL.refl _))).mono ?_
      cases hb : bothF out (negL l) with
      | none =>
        rintro _ _ ⟨rfl, rfl⟩
        rw [hb] at hv
        simp only [go_sem, Int.reduceToNat, Int.reduceLE, Int.reduceLT, Nat.reduceBEq, Nat.reduceLT, Nat.reduceAdd, Nat.reduceLeDiff, hR]
        rw [show negF f = none from hv]
        first | exact rtl (.slice .nil []) (.bool false) ⟨rfl, rfl⟩ | exact rtl0 (.slice .nil []) (.bool false) ⟨rfl, rfl⟩
      | some o =>
        rintro _ _ ⟨rfl, rfl⟩
        rw [hb] at hv
        simp only at hv
        by_cases h4 : o.length ≤ 400
        · rw [if_pos h4] at hv
          simp only [go_sem, Int.reduceToNat, Int.reduceLE, Int.reduceLT, Nat.reduceBEq, Nat.reduceLT, Nat.reduceAdd, Nat.reduceLeDiff, decide_eq_true h4]
          refine hK _ _ (i + 1, o) ⟨by simp only []; omega, h4, bothF_V hb hvo (negL_V hl), hv⟩ (by simp only []; omega) ?_
          exact (by (try dsimp only); (try simp only [ hw]); exact ghM (2))
        · rw [if_neg h4] at hv
          simp only [go_sem, Int.reduceToNat, Int.reduceLE, Int.reduceLT, Nat.reduceBEq, Nat.reduceLT, Nat.reduceAdd, Nat.reduceLeDiff, decide_eq_false h4, hR]
          rw [show negF f = none from hv]
          first | exact rtl (.slice .nil []) (.bool false) ⟨rfl, rfl⟩ | exact rtl0 (.slice .nil []) (.bool false) ⟨rfl, rfl⟩
  · have hlt : ¬ ((i : Int) < (f.length : Int)) := by omega
    rw [drop_len h, negFrom] at hv
    simp only [go_sem, Int.reduceToNat, Int.reduceLE, Int.reduceLT, Nat.reduceBEq, Nat.reduceLT, Nat.reduceAdd, Nat.reduceLeDiff, hlt, hE]
    refine ret_tok (fun x _ => ids_encCf x) 0 1 out.length out (.bool true) hσ rfl rfl rfl rfl (.bool _) ?_
    rw [hv]; exact ⟨rfl, rfl⟩
theorem negated_spec (n : Int) (hn : n ≤ 1000000) (f : List (List FLit)) (tok : Tok) (σ : Store) (hf : f.length ≤ 1000000) (vf : vF n f) :
    ACalls Tryz.prog 44 [.slice tok (f.map encC)] σ (retN σ (negF f)) := (negated_specF n hn f tok σ hf vf).wkC (retNf_wk σ _)
end Go.Proofs.YtbnhijapbnfohaaGreat
namespace Go.Proofs.YtbnhijapbnfohaaGreat
open Go.Ahl
/-- The conditions of the effects on a fact. -/
def whenL (x : FLit) (neg : Bool) (es : List FEff) : List (List FLit) := (es.filter fun e => e.lit.fact == x.fact && e.lit.neg == neg).map (·.when_)
theorem whenL_len (x : FLit) (neg : Bool) (es : List FEff) : (whenL x neg es).length ≤ es.length := by rw [whenL, List.length_map]; exact List.length_filter_le _ _
theorem whenL_succ {x : FLit} {neg : Bool} {es : List FEff} {i : Nat} {e : FEff} (h : es[i]? = some e) : whenL x neg (es.take (i + 1)) = whenL x neg (es.take i) ++ (if e.lit.fact = x.fact ∧ e.lit.neg = neg then [e.when_] else []) := by
  rw [take_succ' h, whenL, List.filter_append, List.map_append]
  congr 1
  by_cases h1 : e.lit.fact = x.fact ∧ e.lit.neg = neg
  · rw [if_pos h1]; simp [h1.1, h1.2]
  · rw [if_neg h1, List.filter_cons_of_neg (by simpa using h1)]; rfl
theorem whenL_V {n : Int} {x : FLit} {neg : Bool} {es : List FEff} (h : ∀ e ∈ es, cV n e.when_) : vF n (whenL x neg es) := by
  intro l hl
  obtain ⟨e, he, rfl⟩ := List.mem_map.1 hl
  exact h e (List.mem_filter.1 he).1
/-- The formula that a literal holds after an action; none: too many terms. -/
def beforeF (a : FAct) (x : FLit) : Option (List (List FLit)) :=
  if x.neg = true then
    match negF (whenL x false a.effects) with
    | none => none
    | some kept => match bothF kept (reducedL (whenL x true a.effects ++ [[x]])) with
      | none => none
      | some h => if h.length ≤ 400 then some h else none
  else
    match negF (whenL x true a.effects) with
    | none => none
    | some kept => match bothF kept [[x]] with
      | none => none
      | some k => if k.length ≤ 400 then some (reducedL (whenL x false a.effects ++ k)) else none
/-- A list, if it is told that there is one. -/
def retO : Option (List (List FLit)) → AV
  | none => .tuple [.any, .bool false]
  | some h => .tuple [.slice .unk (h.map encC), .bool true]
def retOf : Option (List (List FLit)) → AV
  | none => .tuple [.any, .bool false]
  | some h => .tuple [.slice .fresh (h.map encCf), .bool true]
theorem retOf_wk (o : Option (List (List FLit))) : Wk (retOf o) (retO o) := by
  cases o with
  | none => exact .refl _
  | some h => exact Wk.tuple (.cons (Wk.cfu _ _) (WkL.one (.refl _)))
/-- An action of n facts. -/
structure AV_ (n : Int) (a : FAct) : Prop where
  pre : cV n a.pre
  whens : ∀ e ∈ a.effects, cV n e.when_
  many : a.effects.length ≤ 1000
theorem append_V {n : Int} {f g : List (List FLit)} (hf : vF n f) (hg : vF n g) : vF n (f ++ g) := by
  intro l hl
  rcases List.mem_append.1 hl with h | h
  · exact hf l h
  · exact hg l h
theorem one_V {n : Int} {l : List FLit} (h : cV n l) : vF n [l] := by intro l' hl; rw [List.mem_singleton.1 hl]; exact h
def c_before : CCode := .seq (.ops [⟨some 2, .box (.tmp 0), none, []⟩, ⟨some 3, .box (.tmp 1), none, []⟩, ⟨some 4, .move (.lit (.slice .nil [])), none, []⟩, ⟨some 5, .move (.lit (.bool false)), none, []⟩]) (.seq (.ops [⟨some 15, .bslice 1 [] false, none, []⟩, ⟨some 16, .bslice 1 [] false, none, []⟩, ⟨some 6, .move (.tmp 15), none, []⟩, ⟨some 7, .move (.tmp 16), none, []⟩]) (.seq (.seq (.ops [⟨some 17, .faddr 3 (.tmp 2), none, []⟩, ⟨some 18, .load none (.tmp 17), none, []⟩, ⟨some 19, .blen 1 (.tmp 18), none, []⟩, ⟨some 20, .move (.lit (.int .i64 0)), none, []⟩]) (.block 0 (.loop (.seq (.ops [⟨some 21, .bin .lss .none (.tmp 20) (.tmp 19), none, []⟩]) (.seq (.cond (.tmp 21) .skip (.exit 0)) (.seq (.block 1 (.seq (.ops [⟨some 22, .iaddr 3 (.tmp 18) (.tmp 20), none, []⟩, ⟨some 23, .load (some 3) (.tmp 22), none, []⟩, ⟨some 9, .alloc (.agg [.slice .nil [], .int .i64 0, .bool false]), none, []⟩, ⟨none, .store 3 (.tmp 9) (.tmp 23), none, []⟩]) (.seq (.seq (.ops [⟨some 24, .faddr 1 (.tmp 9), none, []⟩, ⟨some 25, .faddr 0 (.tmp 24), none, []⟩, ⟨some 26, .load none (.tmp 25), none, []⟩, ⟨some 27, .faddr 0 (.tmp 3), none, []⟩, ⟨some 28, .load none (.tmp 27), none, []⟩, ⟨some 29, .bin .eql .none (.tmp 26) (.tmp 28), none, []⟩, ⟨some 30, .move (.tmp 29), none, []⟩, ⟨some 31, .faddr 1 (.tmp 9), some (some 30, true), []⟩, ⟨some 32, .faddr 1 (.tmp 31), some (some 30, true), []⟩, ⟨some 33, .load none (.tmp 32), some (some 30, true), []⟩, ⟨some 34, .pick (.tmp 30) (.tmp 33) (.lit (.bool false)), none, []⟩]) (.cond (.tmp 34) (.ops [⟨some 35, .move (.tmp 7), none, []⟩, ⟨some 36, .faddr 0 (.tmp 9), none, []⟩, ⟨some 37, .load none (.tmp 36), none, []⟩, ⟨some 38, .bslice 1 [.tmp 37] false, none, []⟩, ⟨some 39, .bappend 1 24 (.tmp 35) (.tmp 38) false, none, []⟩, ⟨some 7, .move (.tmp 39), none, []⟩]) .skip)) (.seq (.ops [⟨some 40, .faddr 1 (.tmp 9), none, []⟩, ⟨some 41, .faddr 0 (.tmp 40), none, []⟩, ⟨some 42, .load none (.tmp 41), none, []⟩, ⟨some 43, .faddr 0 (.tmp 3), none, []⟩, ⟨some 44, .load none (.tmp 43), none, []⟩, ⟨some 45, .bin .eql .none (.tmp 42) (.tmp 44), none, []⟩, ⟨some 46, .move (.tmp 45), none, []⟩, ⟨some 47, .faddr 1 (.tmp 9), some (some 46, true), []⟩, ⟨some 48, .faddr 1 (.tmp 47), some (some 46, true), []⟩, ⟨some 49, .load none (.tmp 48), some (some 46, true), []⟩, ⟨some 50, .un .not (.tmp 49), some (some 46, true), []⟩, ⟨some 51, .pick (.tmp 46) (.tmp 50) (.lit (.bool false)), none, []⟩]) (.cond (.tmp 51) (.ops [⟨some 52, .move (.tmp 6), none, []⟩, ⟨some 53, .faddr 0 (.tmp 9), none, []⟩, ⟨some 54, .load none (.tmp 53), none, []⟩, ⟨some 55, .bslice 1 [.tmp 54] false, none, []⟩, ⟨some 56, .bappend 1 24 (.tmp 52) (.tmp 55) false, none, []⟩, ⟨some 6, .move (.tmp 56), none, []⟩]) .skip))))) (.ops [⟨some 57, .bin .add .none (.tmp 20) (.lit (.int .i64 1)), none, []⟩, ⟨some 20, .move (.tmp 57), none, []⟩]))))))) (.seq (.ops [⟨some 58, .faddr 0 (.tmp 3), none, []⟩, ⟨some 59, .load none (.tmp 58), none, []⟩, ⟨some 60, .faddr 1 (.tmp 3), none, []⟩, ⟨some 61, .load none (.tmp 60), none, []⟩, ⟨some 62, .build [.int .i64 0, .bool false] [(0, 1, .tmp 59), (1, 1, .tmp 61)], none, []⟩, ⟨some 63, .bslice 2 [.tmp 62] false, none, []⟩, ⟨some 64, .bslice 1 [.tmp 63] false, none, []⟩, ⟨some 10, .move (.tmp 64), none, []⟩]) (.seq (.seq (.ops [⟨some 65, .faddr 1 (.tmp 3), none, []⟩, ⟨some 66, .load none (.tmp 65), none, []⟩]) (.cond (.tmp 66) (.seq (.ops [⟨some 68, .move (.tmp 6), none, []⟩, ⟨some 69, .call (.lit (.func 44 [])) [.tmp 68], none, []⟩, ⟨some 67, .move (.tmp 69), none, []⟩, ⟨some 70, .extract (.tmp 67) 0, none, []⟩, ⟨some 71, .extract (.tmp 67) 1, none, []⟩, ⟨some 11, .move (.tmp 70), none, []⟩, ⟨some 12, .move (.tmp 71), none, []⟩]) (.seq (.seq (.ops [⟨some 72, .move (.tmp 12), none, []⟩, ⟨some 73, .un .not (.tmp 72), none, []⟩]) (.cond (.tmp 73) (.seq (.ops [⟨some 4, .move (.lit (.slice .nil [])), none, []⟩, ⟨some 5, .move (.lit (.bool false)), none, []⟩]) .ret) .skip)) (.seq (.ops [⟨some 74, .move (.tmp 11), none, []⟩, ⟨some 75, .move (.tmp 7), none, []⟩, ⟨some 76, .move (.tmp 10), none, []⟩, ⟨some 77, .bappend 1 24 (.tmp 75) (.tmp 76) false, none, []⟩, ⟨some 78, .call (.lit (.func 29 [])) [.tmp 77], none, []⟩, ⟨some 79, .call (.lit (.func 64 [])) [.tmp 74, .tmp 78], none, []⟩, ⟨some 80, .extract (.tmp 79) 0, none, []⟩, ⟨some 81, .extract (.tmp 79) 1, none, []⟩, ⟨some 4, .move (.tmp 80), none, []⟩, ⟨some 5, .move (.tmp 81), none, []⟩]) .ret))) .skip)) (.seq (.ops [⟨some 83, .move (.tmp 7), none, []⟩, ⟨some 84, .call (.lit (.func 44 [])) [.tmp 83], none, []⟩, ⟨some 82, .move (.tmp 84), none, []⟩, ⟨some 85, .extract (.tmp 82) 0, none, []⟩, ⟨some 86, .extract (.tmp 82) 1, none, []⟩, ⟨some 13, .move (.tmp 85), none, []⟩, ⟨some 14, .move (.tmp 86), none, []⟩]) (.seq (.seq (.ops [⟨some 87, .move (.tmp 14), none, []⟩, ⟨some 88, .un .not (.tmp 87), none, []⟩]) (.cond (.tmp 88) (.seq (.ops [⟨some 4, .move (.lit (.slice .nil [])), none, []⟩, ⟨some 5, .move (.lit (.bool false)), none, []⟩]) .ret) .skip)) (.seq (.ops [⟨some 90, .move (.tmp 13), none, []⟩, ⟨some 91, .move (.tmp 10), none, []⟩, ⟨some 92, .call (.lit (.func 64 [])) [.tmp 90, .tmp 91], none, []⟩, ⟨some 89, .move (.tmp 92), none, []⟩, ⟨some 93, .extract (.tmp 89) 0, none, []⟩, ⟨some 94, .extract (.tmp 89) 1, none, []⟩, ⟨some 13, .move (.tmp 93), none, []⟩, ⟨some 14, .move (.tmp 94), none, []⟩]) (.seq (.ops [⟨some 95, .move (.tmp 6), none, []⟩, ⟨some 96, .move (.tmp 13), none, []⟩, ⟨some 97, .bappend 1 24 (.tmp 95) (.tmp 96) false, none, []⟩, ⟨some 98, .call (.lit (.func 29 [])) [.tmp 97], none, []⟩, ⟨some 99, .move (.tmp 14), none, []⟩, ⟨some 4, .move (.tmp 98), none, []⟩, ⟨some 5, .move (.tmp 99), none, []⟩]) .ret))))))))
set_option maxRecDepth 20000 in
set_option maxHeartbeats 1000000 in
theorem before_spec (n : Int) (hn : n ≤ 1000000) (a : FAct) (x : FLit) (σ : Store) (ha : AV_ n a) (hx : cV n [x]) :
    ACalls Tryz.prog 63 [.agg (encA a), .agg (encLit x)] σ (isR (retO (beforeF a x)) σ) := by
  refine ACalls.intro (rs := [(.tmp 4), (.tmp 5)]) (by kernel_rfl) { own := [], ghosts := [] } Tryz.func63 (c := Tryz.f63.body.getD .skip) (by kernel_rfl) (by decide) (by rw [show Tryz.f63.ntmps = 100 by kernel_rfl]; exact Nat.le_of_ble_eq_true rfl) (by kernel_rfl) ?_
  intro hσ hids
  rw [show comp Tryz.prog { own := [], ghosts := [] } (Tryz.f63.body.getD .skip) = c_before by kernel_rfl, show Tryz.f63.ntmps = 100 by kernel_rfl]
  unfold c_before
  have hmany := ha.many
  have hs4 : ∀ k j, IdsS (σ ++ [AObj.row (encA a), AObj.row (encLit x), AObj.grow 1 k, AObj.grow 1 j]).length (σ ++ [AObj.row (encA a), AObj.row (encLit x), AObj.grow 1 k, AObj.grow 1 j]) := fun k j => idsS_app _ hσ (all_cons' (idsO_row (ids_encA a)) (all_cons' (idsO_row (ids_encLit x)) (all_cons' trivial (all_cons' trivial all_nil'))))
  simp only [go_sem, Int.reduceToNat, Int.reduceLE, Int.reduceLT, Nat.reduceBEq, Nat.reduceLT, Nat.reduceAdd, Nat.reduceLeDiff, encA, encLit]
  refine wpc_while (fun (i : Nat) => [(3, .ptr (σ.length + 1) 0), (6, .slice (.grow (σ.length + 2)) ((whenL x false (a.effects.take i)).map encC)), (7, .slice (.grow (σ.length + 3)) ((whenL x true (a.effects.take i)).map encC)), (18, .slice .unk (a.effects.map encE)), (19, .int .i64 a.effects.length), (20, .int .i64 (i : Nat))])
    (fun i => σ ++ [.row (encA a), .row (encLit x), .grow 1 (whenL x false (a.effects.take i)).length, .grow 1 (whenL x true (a.effects.take i)).length]) (fun i => i ≤ a.effects.length) (fun i => a.effects.length - i) 0 (Nat.zero_le _) (by (try dsimp only); first | exact ghL (hs4 0 0) | exact ghL0 (hs4 0 0)) ?_
  intro i hi K hK hE hR
  by_cases h : i < a.effects.length
  · obtain ⟨e, he⟩ := get_ex h
    have hlt : ((i : Int) < (a.effects.length : Int)) := by omega
    have hw : IntKind.i64.wrap ((i : Int) + 1) = ((i + 1 : Nat) : Int) := by rw [wrap_ok (by omega)]; omega
    have l1 := whenL_len x false (a.effects.take i)
    have l2 := whenL_len x true (a.effects.take i)
    rw [List.length_take_of_le hi] at l1 l2
    have s1 := whenL_succ (x := x) (neg := false) he
    have s2 := whenL_succ (x := x) (neg := true) he
    by_cases c1 : e.lit.fact = x.fact
    · have c1' : (e.lit.fact == x.fact) = true := by simpa using c1
      cases c2 : e.lit.neg
      · rw [if_pos ⟨c1, c2⟩] at s1
        rw [if_neg (by rw [c2]; simp), List.append_nil] at s2
        have hc : (whenL x false (a.effects.take i)).map encC ++ [[AV.slice .unk (e.when_.map encLit)]] = (whenL x false (a.effects.take (i + 1))).map encC := by rw [s1]; simp [encC]
        have hbig : bigLen ((whenL x false (a.effects.take i)).length + 1) 24 := big_ok (by omega) (by omega)
        simp only [go_sem, Int.reduceToNat, Int.reduceLE, Int.reduceLT, Nat.reduceBEq, Nat.reduceLT, Nat.reduceAdd, Nat.reduceLeDiff, hlt, he, encE, encLit, c1', c2, hc, hbig]
        refine hK _ _ (i + 1) (by omega) (by omega) ?_
        rw [s2, show (whenL x false (a.effects.take (i + 1))).length = (whenL x false (a.effects.take i)).length + 1 by rw [s1]; simp]
        exact (by (try dsimp only); (try simp only [ hw]); first | exact ghL (hs4 ((whenL x false (a.effects.take i)).length + 1) (whenL x true (a.effects.take i)).length) | exact ghL0 (hs4 ((whenL x false (a.effects.take i)).length + 1) (whenL x true (a.effects.take i)).length))
      · rw [if_pos ⟨c1, c2⟩] at s2
        rw [if_neg (by rw [c2]; simp), List.append_nil] at s1
        have hc : (whenL x true (a.effects.take i)).map encC ++ [[AV.slice .unk (e.when_.map encLit)]] = (whenL x true (a.effects.take (i + 1))).map encC := by rw [s2]; simp [encC]
        have hbig : bigLen ((whenL x true (a.effects.take i)).length + 1) 24 := big_ok (by omega) (by omega)
        simp only [go_sem, Int.reduceToNat, Int.reduceLE, Int.reduceLT, Nat.reduceBEq, Nat.reduceLT, Nat.reduceAdd, Nat.reduceLeDiff, hlt, he, encE, encLit, c1', c2, hc, hbig]
        refine hK _ _ (i + 1) (by omega) (by omega) ?_
        rw [s1, show (whenL x true (a.effects.take (i + 1))).length = (whenL x true (a.effects.take i)).length + 1 by rw [s2]; simp]
        exact (by (try dsimp only); (try simp only [ hw]); first | exact ghL (hs4 (whenL x false (a.effects.take i)).length ((whenL x true (a.effects.take i)).length + 1)) | exact ghL0 (hs4 (whenL x false (a.effects.take i)).length ((whenL x true (a.effects.take i)).length + 1)))
    · have c1' : (e.lit.fact == x.fact) = false := by simpa using c1
      rw [if_neg (fun q => c1 q.1), List.append_nil] at s1 s2
      simp only [go_sem, Int.reduceToNat, Int.reduceLE, Int.reduceLT, Nat.reduceBEq, Nat.reduceLT, Nat.reduceAdd, Nat.reduceLeDiff, hlt, he, encE, encLit, c1']
      refine hK _ _ (i + 1) (by omega) (by omega) ?_
      rw [s1, s2]
      exact (by (try dsimp only); (try simp only [ hw]); first | exact ghL (hs4 (whenL x false (a.effects.take i)).length (whenL x true (a.effects.take i)).length) | exact ghL0 (hs4 (whenL x false (a.effects.take i)).length (whenL x true (a.effects.take i)).length))
  · have hlt : ¬ ((i : Int) < (a.effects.length : Int)) := by omega
    have ht : a.effects.take i = a.effects := List.take_of_length_le (by omega)
    rw [ht]
    have l1 := whenL_len x false a.effects
    have l2 := whenL_len x true a.effects
    have v1 := whenL_V (x := x) (neg := false) ha.whens
    have v2 := whenL_V (x := x) (neg := true) ha.whens
    cases hneg : x.neg
    · simp only [go_sem, Int.reduceToNat, Int.reduceLE, Int.reduceLT, Nat.reduceBEq, Nat.reduceLT, Nat.reduceAdd, Nat.reduceLeDiff, hlt, hE, encLit, hneg]
      refine (negated_spec n hn _ _ _ (by omega) v2).mono ?_
      have hb : beforeF a x = match negF (whenL x true a.effects) with
          | none => none
          | some kept => match bothF kept [[x]] with
            | none => none
            | some k => if k.length ≤ 400 then some (reducedL (whenL x false a.effects ++ k)) else none := by unfold beforeF; rw [hneg]; rfl
      cases h1 : negF (whenL x true a.effects) with
      | none =>
        rintro _ _ ⟨rfl, rfl⟩
        rw [h1] at hb
        simp only [go_sem, Int.reduceToNat, Int.reduceLE, Int.reduceLT, Nat.reduceBEq, Nat.reduceLT, Nat.reduceAdd, Nat.reduceLeDiff]
        rw [show beforeF a x = none from hb]
        first | exact rtl (.any) (.bool false) ⟨rfl, rfl⟩ | exact rtl0 (.any) (.bool false) ⟨rfl, rfl⟩
      | some kept =>
        rintro _ _ ⟨rfl, rfl⟩
        rw [h1] at hb
        simp only at hb
        have hnl := negF_len h1
        simp only [go_sem, Int.reduceToNat, Int.reduceLE, Int.reduceLT, Nat.reduceBEq, Nat.reduceLT, Nat.reduceAdd, Nat.reduceLeDiff]
        refine ACalls.mono (ACalls.wk (Both_spec n hn kept [[x]] .unk .unk _ (by omega) (by simp) (negF_V v2 h1) (one_V hx)) ?_) ?_
        · exact (.cons (Wk.unk _ _) (WkL.one (by rw [show ([[x]].map encC) = [[AV.slice .unk [[.int .i64 x.fact, .bool x.neg]]]] from rfl, hneg]; exact Wk.sl _ (WkLL.one (WkL.one (Wk.unk _ _))))))
        cases h2 : bothF kept [[x]] with
        | none =>
          rintro _ _ ⟨rfl, rfl⟩
          rw [h2] at hb
          have hbig : bigLen (whenL x false a.effects).length 24 := big_ok (by omega) (by omega)
          simp only [go_sem, Int.reduceToNat, Int.reduceLE, Int.reduceLT, Nat.reduceBEq, Nat.reduceLT, Nat.reduceAdd, Nat.reduceLeDiff, hbig]
          refine (reduced_spec _ _ _ (v1.ok hn (by omega))).mono ?_
          rintro _ _ ⟨rfl, rfl⟩
          simp only [go_sem, Int.reduceToNat, Int.reduceLE, Int.reduceLT, Nat.reduceBEq, Nat.reduceLT, Nat.reduceAdd, Nat.reduceLeDiff]
          rw [show beforeF a x = none from hb]
          first | exact rtl (.any) (.bool false) ⟨rfl, rfl⟩ | exact rtl0 (.any) (.bool false) ⟨rfl, rfl⟩
        | some k =>
          rintro _ _ ⟨rfl, rfl⟩
          rw [h2] at hb
          simp only at hb
          have hbl := bothF_len h2
          have hbig : bigLen ((whenL x false a.effects).length + k.length) 24 := big_ok (by omega) (by omega)
          have hall : ∀ y ∈ k, (encC y).length = 1 ∧ (encC y).all AV.one = true := fun y _ => ⟨rfl, rfl⟩
          simp only [go_sem, Int.reduceToNat, Int.reduceLE, Int.reduceLT, Nat.reduceBEq, Nat.reduceLT, Nat.reduceAdd, Nat.reduceLeDiff, hbig, ← List.map_append]
          refine ⟨hall, ?_⟩
          refine (reduced_spec _ _ _ ((append_V v1 (bothF_V h2 (negF_V v2 h1) (one_V hx))).ok hn (by rw [List.length_append]; omega))).mono ?_
          rintro _ _ ⟨rfl, rfl⟩
          by_cases h4 : k.length ≤ 400
          · rw [if_pos h4] at hb
            simp only [go_sem, Int.reduceToNat, Int.reduceLE, Int.reduceLT, Nat.reduceBEq, Nat.reduceLT, Nat.reduceAdd, Nat.reduceLeDiff, decide_eq_true h4]
            rw [hb]
            first | exact rtl (.slice .unk ((reducedL (whenL x false a.effects ++ k)).map encC)) (.bool true) ⟨rfl, rfl⟩ | exact rtl0 (.slice .unk ((reducedL (whenL x false a.effects ++ k)).map encC)) (.bool true) ⟨rfl, rfl⟩
          · rw [if_neg h4] at hb
            simp only [go_sem, Int.reduceToNat, Int.reduceLE, Int.reduceLT, Nat.reduceBEq, Nat.reduceLT, Nat.reduceAdd, Nat.reduceLeDiff, decide_eq_false h4]
            rw [hb]
            first | exact rtl (.any) (.bool false) ⟨rfl, rfl⟩ | exact rtl0 (.any) (.bool false) ⟨rfl, rfl⟩
    · simp only [go_sem, Int.reduceToNat, Int.reduceLE, Int.reduceLT, Nat.reduceBEq, Nat.reduceLT, Nat.reduceAdd, Nat.reduceLeDiff, hlt, hE, encLit, hneg]
      refine (negated_spec n hn _ _ _ (by omega) v1).mono ?_
      have hb : beforeF a x = match negF (whenL x false a.effects) with
          | none => none
          | some kept => match bothF kept (reducedL (whenL x true a.effects ++ [[x]])) with
            | none => none
            | some h => if h.length ≤ 400 then some h else none := by unfold beforeF; rw [hneg]; rfl
      cases h1 : negF (whenL x false a.effects) with
      | none =>
        rintro _ _ ⟨rfl, rfl⟩
        rw [h1] at hb
        simp only [go_sem, Int.reduceToNat, Int.reduceLE, Int.reduceLT, Nat.reduceBEq, Nat.reduceLT, Nat.reduceAdd, Nat.reduceLeDiff]
        rw [show beforeF a x = none from hb]
        first | exact rtl (.any) (.bool false) ⟨rfl, rfl⟩ | exact rtl0 (.any) (.bool false) ⟨rfl, rfl⟩
      | some kept =>
        rintro _ _ ⟨rfl, rfl⟩
        rw [h1] at hb
        simp only at hb
        have hnl := negF_len h1
        have hbig : bigLen ((whenL x true a.effects).length + 1) 24 := big_ok (by omega) (by omega)
        simp only [go_sem, Int.reduceToNat, Int.reduceLE, Int.reduceLT, Nat.reduceBEq, Nat.reduceLT, Nat.reduceAdd, Nat.reduceLeDiff, hbig]
        refine ACalls.mono (ACalls.wk (reduced_spec (whenL x true a.effects ++ [[x]]) .unk _ ((append_V v2 (one_V hx)).ok hn (by simp; omega))) ?_) ?_
        · exact (WkL.one (by rw [List.map_append, show ([[x]].map encC) = [[AV.slice .unk [[.int .i64 x.fact, .bool x.neg]]]] from rfl, hneg]; exact Wk.sl _ (.append (.refl _) (WkLL.one (WkL.one (Wk.unk _ _))))))
        rintro _ _ ⟨rfl, rfl⟩
        have lr := reducedL_len (whenL x true a.effects ++ [[x]])
        rw [List.length_append, List.length_singleton] at lr
        simp only [go_sem, Int.reduceToNat, Int.reduceLE, Int.reduceLT, Nat.reduceBEq, Nat.reduceLT, Nat.reduceAdd, Nat.reduceLeDiff]
        refine (Both_spec n hn kept (reducedL (whenL x true a.effects ++ [[x]])) _ _ _ (by omega) (by omega) (negF_V v1 h1) (reducedL_V (append_V v2 (one_V hx)))).mono ?_
        cases h2 : bothF kept (reducedL (whenL x true a.effects ++ [[x]])) with
        | none =>
          rintro _ _ ⟨rfl, rfl⟩
          rw [h2] at hb
          simp only [go_sem, Int.reduceToNat, Int.reduceLE, Int.reduceLT, Nat.reduceBEq, Nat.reduceLT, Nat.reduceAdd, Nat.reduceLeDiff]
          rw [show beforeF a x = none from hb]
          first | exact rtl (.any) (.bool false) ⟨rfl, rfl⟩ | exact rtl0 (.any) (.bool false) ⟨rfl, rfl⟩
        | some k =>
          rintro _ _ ⟨rfl, rfl⟩
          rw [h2] at hb
          simp only at hb
          by_cases h4 : k.length ≤ 400
          · rw [if_pos h4] at hb
            simp only [go_sem, Int.reduceToNat, Int.reduceLE, Int.reduceLT, Nat.reduceBEq, Nat.reduceLT, Nat.reduceAdd, Nat.reduceLeDiff, decide_eq_true h4]
            rw [hb]
            first | exact rtl (.slice .unk (k.map encC)) (.bool true) ⟨rfl, rfl⟩ | exact rtl0 (.slice .unk (k.map encC)) (.bool true) ⟨rfl, rfl⟩
          · rw [if_neg h4] at hb
            simp only [go_sem, Int.reduceToNat, Int.reduceLE, Int.reduceLT, Nat.reduceBEq, Nat.reduceLT, Nat.reduceAdd, Nat.reduceLeDiff, decide_eq_false h4]
            rw [hb]
            first | exact rtl (.any) (.bool false) ⟨rfl, rfl⟩ | exact rtl0 (.any) (.bool false) ⟨rfl, rfl⟩
end Go.Proofs.YtbnhijapbnfohaaGreat
namespace Go.Proofs.YtbnhijapbnfohaaGreat
open Go.Ahl
theorem beforeF_V {n : Int} {a : FAct} {x : FLit} {h : List (List FLit)} (ha : AV_ n a) (hx : cV n [x]) (e : beforeF a x = some h) : vF n h := by
  have v1 := whenL_V (x := x) (neg := false) ha.whens
  have v2 := whenL_V (x := x) (neg := true) ha.whens
  unfold beforeF at e
  split at e
  · cases h1 : negF (whenL x false a.effects) with
    | none => rw [h1] at e; simp at e
    | some kept =>
      rw [h1] at e; simp only at e
      cases h2 : bothF kept (reducedL (whenL x true a.effects ++ [[x]])) with
      | none => rw [h2] at e; simp at e
      | some k =>
        rw [h2] at e; simp only at e
        split at e
        · injection e with e; subst e; exact bothF_V h2 (negF_V v1 h1) (reducedL_V (append_V v2 (one_V hx)))
        · simp at e
  · cases h1 : negF (whenL x true a.effects) with
    | none => rw [h1] at e; simp at e
    | some kept =>
      rw [h1] at e; simp only at e
      cases h2 : bothF kept [[x]] with
      | none => rw [h2] at e; simp at e
      | some k =>
        rw [h2] at e; simp only at e
        split at e
        · injection e with e; subst e; exact reducedL_V (append_V v1 (bothF_V h2 (negF_V v2 h1) (one_V hx)))
        · simp at e
theorem beforeF_len {a : FAct} {x : FLit} {h : List (List FLit)} (ha : a.effects.length ≤ 1000) (e : beforeF a x = some h) : h.length ≤ 1400 := by
  unfold beforeF at e
  split at e
  · cases h1 : negF (whenL x false a.effects) with
    | none => rw [h1] at e; simp at e
    | some kept =>
      rw [h1] at e; simp only at e
      cases h2 : bothF kept (reducedL (whenL x true a.effects ++ [[x]])) with
      | none => rw [h2] at e; simp at e
      | some k =>
        rw [h2] at e; simp only at e
        split at e
        · injection e with e; subst e; omega
        · simp at e
  · cases h1 : negF (whenL x true a.effects) with
    | none => rw [h1] at e; simp at e
    | some kept =>
      rw [h1] at e; simp only at e
      cases h2 : bothF kept [[x]] with
      | none => rw [h2] at e; simp at e
      | some k =>
        rw [h2] at e; simp only at e
        split at e
        · injection e with e; subst e
          have l1 := whenL_len x false a.effects
          have l2 := reducedL_len (whenL x false a.effects ++ k)
          rw [List.length_append] at l2; omega
        · simp at e
def backTerm (a : FAct) (g : List (List FLit)) : List FLit → Option (List (List FLit))
  | [] => some g
  | x :: l => match beforeF a x with
    | none => none
    | some h => match bothF g h with
      | none => none
      | some g' => if g'.length ≤ 400 then backTerm a g' l else none
def backFrom (a : FAct) (out : List (List FLit)) : List (List FLit) → Option (List (List FLit))
  | [] => if (reducedL out).length ≤ 400 then some (reducedL out) else none
  | l :: f => match backTerm a [a.pre] l with
    | none => none
    | some g => if 40000 < out.length + g.length then none else backFrom a (out ++ g) f
/-- The regression of a formula; none: too many terms. -/
def backF (a : FAct) (f : List (List FLit)) : Option (List (List FLit)) := backFrom a [] f
theorem lit_V {n : Int} {l : List FLit} (h : cV n l) {x : FLit} (hx : x ∈ l) : cV n [x] := by
  have := condB_mem h x hx
  exact condB_mk this.1 this.2 rfl
def c_Back : CCode := .seq (.ops [⟨some 2, .box (.tmp 0), none, []⟩, ⟨some 4, .move (.lit (.slice .nil [])), none, []⟩, ⟨some 5, .move (.lit (.bool false)), none, []⟩]) (.seq (.ops [⟨some 6, .move (.lit (.slice .nil [])), none, []⟩]) (.seq (.seq (.ops [⟨some 14, .move (.tmp 1), none, []⟩, ⟨some 15, .blen 1 (.tmp 14), none, []⟩, ⟨some 16, .move (.lit (.int .i64 0)), none, []⟩]) (.block 0 (.loop (.seq (.ops [⟨some 17, .bin .lss .none (.tmp 16) (.tmp 15), none, []⟩]) (.seq (.cond (.tmp 17) .skip (.exit 0)) (.seq (.block 1 (.seq (.ops [⟨some 18, .iaddr 1 (.tmp 14) (.tmp 16), none, []⟩, ⟨some 19, .load none (.tmp 18), none, []⟩, ⟨some 8, .move (.tmp 19), none, []⟩]) (.seq (.ops [⟨some 20, .faddr 2 (.tmp 2), none, []⟩, ⟨some 21, .load none (.tmp 20), none, []⟩, ⟨some 22, .bslice 1 [.tmp 21] false, none, []⟩, ⟨some 9, .move (.tmp 22), none, []⟩]) (.seq (.seq (.ops [⟨some 23, .move (.tmp 8), none, []⟩, ⟨some 24, .blen 1 (.tmp 23), none, []⟩, ⟨some 25, .move (.lit (.int .i64 0)), none, []⟩]) (.block 2 (.loop (.seq (.ops [⟨some 26, .bin .lss .none (.tmp 25) (.tmp 24), none, []⟩]) (.seq (.cond (.tmp 26) .skip (.exit 2)) (.seq (.block 3 (.seq (.ops [⟨some 27, .iaddr 2 (.tmp 23) (.tmp 25), none, []⟩, ⟨some 28, .load (some 2) (.tmp 27), none, []⟩, ⟨some 11, .alloc (.agg [.int .i64 0, .bool false]), none, []⟩, ⟨none, .store 2 (.tmp 11) (.tmp 28), none, []⟩]) (.seq (.ops [⟨some 30, .load (some 4) (.tmp 2), none, []⟩, ⟨some 31, .load (some 2) (.tmp 11), none, []⟩, ⟨some 32, .call (.lit (.func 63 [])) [.tmp 30, .tmp 31], none, []⟩, ⟨some 29, .move (.tmp 32), none, []⟩, ⟨some 33, .extract (.tmp 29) 0, none, []⟩, ⟨some 34, .extract (.tmp 29) 1, none, []⟩, ⟨some 12, .move (.tmp 33), none, []⟩, ⟨some 13, .move (.tmp 34), none, []⟩]) (.seq (.seq (.ops [⟨some 35, .move (.tmp 13), none, []⟩, ⟨some 36, .un .not (.tmp 35), none, []⟩]) (.cond (.tmp 36) (.seq (.ops [⟨some 4, .move (.lit (.slice .nil [])), none, []⟩, ⟨some 5, .move (.lit (.bool false)), none, []⟩]) .ret) .skip)) (.seq (.ops [⟨some 38, .move (.tmp 9), none, []⟩, ⟨some 39, .move (.tmp 12), none, []⟩, ⟨some 40, .call (.lit (.func 64 [])) [.tmp 38, .tmp 39], none, []⟩, ⟨some 37, .move (.tmp 40), none, []⟩, ⟨some 41, .extract (.tmp 37) 0, none, []⟩, ⟨some 42, .extract (.tmp 37) 1, none, []⟩, ⟨some 9, .move (.tmp 41), none, []⟩, ⟨some 13, .move (.tmp 42), none, []⟩]) (.seq (.ops [⟨some 43, .move (.tmp 13), none, []⟩, ⟨some 44, .un .not (.tmp 43), none, []⟩]) (.cond (.tmp 44) (.seq (.ops [⟨some 4, .move (.lit (.slice .nil [])), none, []⟩, ⟨some 5, .move (.lit (.bool false)), none, []⟩]) .ret) .skip))))))) (.ops [⟨some 45, .bin .add .none (.tmp 25) (.lit (.int .i64 1)), none, []⟩, ⟨some 25, .move (.tmp 45), none, []⟩]))))))) (.seq (.ops [⟨some 46, .move (.tmp 6), none, []⟩, ⟨some 47, .move (.tmp 9), none, []⟩, ⟨some 48, .bappend 1 24 (.tmp 46) (.tmp 47) false, none, []⟩, ⟨some 6, .move (.tmp 48), none, []⟩]) (.seq (.ops [⟨some 49, .move (.tmp 6), none, []⟩, ⟨some 50, .blen 1 (.tmp 49), none, []⟩, ⟨some 51, .bin .gtr .none (.tmp 50) (.lit (.int .i64 40000)), none, []⟩]) (.cond (.tmp 51) (.seq (.ops [⟨some 4, .move (.lit (.slice .nil [])), none, []⟩, ⟨some 5, .move (.lit (.bool false)), none, []⟩]) .ret) .skip))))))) (.ops [⟨some 52, .bin .add .none (.tmp 16) (.lit (.int .i64 1)), none, []⟩, ⟨some 16, .move (.tmp 52), none, []⟩]))))))) (.seq (.ops [⟨some 53, .move (.tmp 6), none, []⟩, ⟨some 54, .call (.lit (.func 29 [])) [.tmp 53], none, []⟩, ⟨some 6, .move (.tmp 54), none, []⟩]) (.seq (.ops [⟨some 55, .move (.tmp 6), none, []⟩, ⟨some 56, .move (.tmp 6), none, []⟩, ⟨some 57, .blen 1 (.tmp 56), none, []⟩, ⟨some 58, .bin .leq .none (.tmp 57) (.lit (.int .i64 400)), none, []⟩, ⟨some 4, .move (.tmp 55), none, []⟩, ⟨some 5, .move (.tmp 58), none, []⟩]) .ret))))
set_option maxRecDepth 20000 in
set_option maxHeartbeats 1000000 in
theorem Back_specF (n : Int) (hn : n ≤ 1000000) (a : FAct) (f : List (List FLit)) (tok : Tok) (σ : Store) (ha : AV_ n a) (hf : f.length ≤ 1000000) (vf : vF n f) :
    ACalls Tryz.prog 41 [.agg (encA a), .slice tok (f.map encC)] σ (isR (retOf (backF a f)) σ) := by
  refine ACalls.intro (rs := [(.tmp 4), (.tmp 5)]) (by kernel_rfl) { own := [], ghosts := [] } Tryz.func41 (c := Tryz.f41.body.getD .skip) (by kernel_rfl) (by decide) (by rw [show Tryz.f41.ntmps = 59 by kernel_rfl]; exact Nat.le_of_ble_eq_true rfl) (by kernel_rfl) ?_
  intro hσ hids
  rw [show comp Tryz.prog { own := [], ghosts := [] } (Tryz.f41.body.getD .skip) = c_Back by kernel_rfl, show Tryz.f41.ntmps = 59 by kernel_rfl]
  unfold c_Back
  have hif : Ids σ.length (.slice tok (f.map encC)) := hids _ (by simp)
  have hs1 : IdsS (σ ++ [AObj.row (encA a)]).length (σ ++ [AObj.row (encA a)]) := ids_grow hσ (ids_encA a)
  have hs2 : ∀ k, IdsS (σ ++ [AObj.row (encA a), AObj.grow 1 k]).length (σ ++ [AObj.row (encA a), AObj.grow 1 k]) := fun k => idsS_app _ hσ (all_cons' (idsO_row (ids_encA a)) (all_cons' trivial all_nil'))
  simp only [go_sem, Int.reduceToNat, Int.reduceLE, Int.reduceLT, Nat.reduceBEq, Nat.reduceLT, Nat.reduceAdd, Nat.reduceLeDiff]
  refine wpc_while (fun (q : Nat × List (List FLit)) => [(6, .slice (.grow (σ.length + 1)) (q.2.map encC)), (2, .ptr σ.length 0), (14, .slice tok (f.map encC)), (15, .int .i64 f.length), (16, .int .i64 q.1)]) (fun q => σ ++ [.row (encA a), .grow 1 q.2.length])
    (fun q => q.1 ≤ f.length ∧ q.2.length ≤ 40000 ∧ vF n q.2 ∧ backF a f = backFrom a q.2 (f.drop q.1)) (fun q => f.length - q.1) (0, []) ⟨Nat.zero_le _, by simp, by intro l hl; simp at hl, rfl⟩ (.begin1 6 1 _ (Nat.le_refl _) tellT hs1) ?_
  rintro ⟨i, out⟩ ⟨hi, ho, hvo, hv⟩ K hK hE hR
  dsimp only at hi ho hvo hv ⊢
  by_cases h : i < f.length
  · obtain ⟨l, hx⟩ := get_ex h; have hlt : ((i : Int) < (f.length : Int)) := (by omega); have hw : IntKind.i64.wrap ((i : Int) + 1) = ((i + 1 : Nat) : Int) := (by rw [wrap_ok (by omega)]; omega)
    have hl := vf l (List.mem_of_getElem? hx)
    have hll := cV_len hn hl
    rw [drop_cons hx, backFrom] at hv
    simp only [go_sem, Int.reduceToNat, Int.reduceLE, Int.reduceLT, Nat.reduceBEq, Nat.reduceLT, Nat.reduceAdd, Nat.reduceLeDiff, hlt, hx, encC, encA]
    refine wpc_while (fun (q : Nat × List (List FLit)) => [(9, .slice .unk (q.2.map encC)), (6, .slice (.grow (σ.length + 1)) (out.map encC)), (2, .ptr σ.length 0), (14, .slice tok (f.map encC)), (15, .int .i64 f.length), (16, .int .i64 i), (23, .slice .unk (l.map encLit)), (24, .int .i64 l.length), (25, .int .i64 q.1)]) (fun q => σ ++ [.row (encA a), .grow 1 out.length])
      (fun q => q.1 ≤ l.length ∧ q.2.length ≤ 400 ∧ vF n q.2 ∧ backTerm a [a.pre] l = backTerm a q.2 (l.drop q.1)) (fun q => l.length - q.1) (0, [a.pre]) ⟨Nat.zero_le _, by simp, one_V ha.pre, rfl⟩ (by (try dsimp only); first | exact ghL (hs2 out.length) | exact ghL0 (hs2 out.length)) ?_
    rintro ⟨j, g⟩ ⟨hj', hgl, hvg, hvj⟩ K' hK' hE' hR'
    dsimp only at hj' hgl hvg hvj ⊢
    by_cases hj : j < l.length
    · obtain ⟨x, hxj⟩ := get_ex hj; have hltj : ((j : Int) < (l.length : Int)) := (by omega); have hwj : IntKind.i64.wrap ((j : Int) + 1) = ((j + 1 : Nat) : Int) := (by rw [wrap_ok (by omega)]; omega)
      have hvx := lit_V hl (List.mem_of_getElem? hxj)
      rw [drop_cons hxj, backTerm] at hvj
      simp only [go_sem, Int.reduceToNat, Int.reduceLE, Int.reduceLT, Nat.reduceBEq, Nat.reduceLT, Nat.reduceAdd, Nat.reduceLeDiff, hltj, hxj, encLit, encA]
      refine (before_spec n hn a x _ ha hvx).is ?_
      cases hb : beforeF a x with
      | none =>
        rw [hb] at hvj
        rw [show backTerm a [a.pre] l = none from hvj] at hv
        simp only [go_sem, Int.reduceToNat, Int.reduceLE, Int.reduceLT, Nat.reduceBEq, Nat.reduceLT, Nat.reduceAdd, Nat.reduceLeDiff, retO, hR', hR]
        rw [show backF a f = none from hv]
        first | exact rtl (.any) (.bool false) ⟨rfl, rfl⟩ | exact rtl0 (.any) (.bool false) ⟨rfl, rfl⟩
      | some h =>
        rw [hb] at hvj; simp only at hvj
        simp only [go_sem, Int.reduceToNat, Int.reduceLE, Int.reduceLT, Nat.reduceBEq, Nat.reduceLT, Nat.reduceAdd, Nat.reduceLeDiff, retO]
        have hhl := beforeF_len ha.many hb
        refine (Both_spec n hn g h _ _ _ (by omega) (by omega) hvg (beforeF_V ha hvx hb)).mono ?_
        cases hc : bothF g h with
        | none =>
          rintro _ _ ⟨rfl, rfl⟩
          rw [hc] at hvj
          rw [show backTerm a [a.pre] l = none from hvj] at hv
          simp only [go_sem, Int.reduceToNat, Int.reduceLE, Int.reduceLT, Nat.reduceBEq, Nat.reduceLT, Nat.reduceAdd, Nat.reduceLeDiff, hR', hR]
          rw [show backF a f = none from hv]
          first | exact rtl (.any) (.bool false) ⟨rfl, rfl⟩ | exact rtl0 (.any) (.bool false) ⟨rfl, rfl⟩
        | some g' =>
          rintro _ _ ⟨rfl, rfl⟩
          rw [hc] at hvj; simp only at hvj
          by_cases h4 : g'.length ≤ 400
          · rw [if_pos h4] at hvj
            simp only [go_sem, Int.reduceToNat, Int.reduceLE, Int.reduceLT, Nat.reduceBEq, Nat.reduceLT, Nat.reduceAdd, Nat.reduceLeDiff, decide_eq_true h4]
            refine hK' _ _ (j + 1, g') ⟨by simp only []; omega, h4, bothF_V hc hvg (beforeF_V ha hvx hb), hvj⟩ (by simp only []; omega) ?_
            exact (by (try dsimp only); (try simp only [ hwj]); first | exact ghL (hs2 out.length) | exact ghL0 (hs2 out.length))
          · rw [if_neg h4] at hvj
            rw [show backTerm a [a.pre] l = none from hvj] at hv
            simp only [go_sem, Int.reduceToNat, Int.reduceLE, Int.reduceLT, Nat.reduceBEq, Nat.reduceLT, Nat.reduceAdd, Nat.reduceLeDiff, decide_eq_false h4, hR', hR]
            rw [show backF a f = none from hv]
            first | exact rtl (.any) (.bool false) ⟨rfl, rfl⟩ | exact rtl0 (.any) (.bool false) ⟨rfl, rfl⟩
    · have hltj : ¬ ((j : Int) < (l.length : Int)) := by omega
      rw [drop_len hj, backTerm] at hvj
      rw [hvj] at hv; simp only at hv
      have hbig : bigLen (out.length + g.length) 24 := big_ok (by omega) (by omega)
      have hall : ∀ y ∈ g, (encC y).length = 1 ∧ (encC y).all AV.one = true := fun y _ => ⟨rfl, rfl⟩
      by_cases h5 : ((out.length + g.length : Nat) : Int) > 40000
      · rw [if_pos (by omega)] at hv
        simp only [go_sem, Int.reduceToNat, Int.reduceLE, Int.reduceLT, Nat.reduceBEq, Nat.reduceLT, Nat.reduceAdd, Nat.reduceLeDiff, hltj, hE', hbig, h5, hR, ← List.map_append]
        refine ⟨hall, ?_⟩
        rw [show backF a f = none from hv]
        first | exact rtl (.any) (.bool false) ⟨rfl, rfl⟩ | exact rtl0 (.any) (.bool false) ⟨rfl, rfl⟩
      · rw [if_neg (by omega)] at hv
        simp only [go_sem, Int.reduceToNat, Int.reduceLE, Int.reduceLT, Nat.reduceBEq, Nat.reduceLT, Nat.reduceAdd, Nat.reduceLeDiff, hltj, hE', hbig, h5, ← List.map_append]
        refine ⟨hall, ?_⟩
        refine hK _ _ (i + 1, out ++ g) ⟨by simp only []; omega, by rw [List.length_append]; omega, append_V hvo hvg, hv⟩ (by simp only []; omega) ?_
        simp only [List.length_append]
        exact (by (try dsimp only); (try simp only [ hw]); first | exact ghL (hs2 (out.length + g.length)) | exact ghL0 (hs2 (out.length + g.length)))
  · have hlt : ¬ ((i : Int) < (f.length : Int)) := by omega
    rw [drop_len h, backFrom] at hv
    simp only [go_sem, Int.reduceToNat, Int.reduceLE, Int.reduceLT, Nat.reduceBEq, Nat.reduceLT, Nat.reduceAdd, Nat.reduceLeDiff, hlt, hE]
    refine (reduced_specF out _ _ (hvo.ok hn (by omega))).mono ?_
    rintro _ _ ⟨rfl, rfl⟩
    by_cases h4 : (reducedL out).length ≤ 400
    · rw [if_pos h4] at hv
      have h4' : ((reducedL out).length : Int) ≤ 400 := by omega
      simp only [go_sem, Int.reduceToNat, Int.reduceLE, Int.reduceLT, Nat.reduceBEq, Nat.reduceLT, Nat.reduceAdd, Nat.reduceLeDiff, h4']
      rw [hv]
      first | exact rtl (.slice .fresh ((reducedL out).map encCf)) (.bool true) ⟨rfl, rfl⟩ | exact rtl0 (.slice .fresh ((reducedL out).map encCf)) (.bool true) ⟨rfl, rfl⟩
    · rw [if_neg h4] at hv
      have h4' : ¬ ((reducedL out).length : Int) ≤ 400 := by omega
      simp only [go_sem, Int.reduceToNat, Int.reduceLE, Int.reduceLT, Nat.reduceBEq, Nat.reduceLT, Nat.reduceAdd, Nat.reduceLeDiff, h4']
      rw [hv]
      first | exact rtl (.any) (.bool false) ⟨rfl, rfl⟩ | exact rtl0 (.any) (.bool false) ⟨rfl, rfl⟩
theorem Back_spec (n : Int) (hn : n ≤ 1000000) (a : FAct) (f : List (List FLit)) (tok : Tok) (σ : Store) (ha : AV_ n a) (hf : f.length ≤ 1000000) (vf : vF n f) :
    ACalls Tryz.prog 41 [.agg (encA a), .slice tok (f.map encC)] σ (isR (retO (backF a f)) σ) := (Back_specF n hn a f tok σ ha hf vf).wkR (retOf_wk _)
end Go.Proofs.YtbnhijapbnfohaaGreat
namespace Go.Proofs.YtbnhijapbnfohaaGreat
open Go.Ahl
theorem backTerm_V {n : Int} {a : FAct} (ha : AV_ n a) : ∀ {l : List FLit} {g h : List (List FLit)}, (∀ x ∈ l, cV n [x]) → vF n g → backTerm a g l = some h → vF n h
  | [], g, h, _, hg, e => by simp [backTerm] at e; subst e; exact hg
  | x :: l, g, h, hl, hg, e => by
    rw [backTerm] at e
    cases h1 : beforeF a x with
    | none => rw [h1] at e; simp at e
    | some b =>
      rw [h1] at e; simp only at e
      cases h2 : bothF g b with
      | none => rw [h2] at e; simp at e
      | some k =>
        rw [h2] at e; simp only at e
        split at e
        · exact backTerm_V ha (fun y hy => hl y (List.mem_cons_of_mem _ hy)) (bothF_V h2 hg (beforeF_V ha (hl x List.mem_cons_self) h1)) e
        · simp at e
theorem backFrom_V {n : Int} {a : FAct} (ha : AV_ n a) : ∀ {f out h : List (List FLit)}, vF n f → vF n out → backFrom a out f = some h → vF n h ∧ h.length ≤ 400
  | [], out, h, _, ho, e => by
    rw [backFrom] at e
    split at e
    · injection e with e; subst e; exact ⟨reducedL_V ho, ‹_›⟩
    · simp at e
  | l :: f, out, h, hf, ho, e => by
    rw [backFrom] at e
    cases h1 : backTerm a [a.pre] l with
    | none => rw [h1] at e; simp at e
    | some g =>
      rw [h1] at e; simp only at e
      split at e
      · simp at e
      · have hl := hf l List.mem_cons_self
        exact backFrom_V ha (fun l hl => hf l (List.mem_cons_of_mem _ hl)) (append_V ho (backTerm_V ha (fun x hx => lit_V hl hx) (one_V ha.pre) h1)) e
theorem backF_V {n : Int} {a : FAct} (ha : AV_ n a) {f h : List (List FLit)} (hf : vF n f) (e : backF a f = some h) : vF n h ∧ h.length ≤ 400 := backFrom_V ha hf (by intro l hl; simp at hl) e
/-- The negation of one condition is not large. -/
theorem neg_one {n : Int} (hn : n ≤ 400) {l : List FLit} (h : cV n l) : ∃ k, negF [l] = some k := by
  have hl : l.length ≤ 400 := by
    rcases condB_len h with rfl | h
    · simp
    · omega
  have hb : bigL [[]] (negL l) = ([[]], negL l) := by unfold bigL; rw [if_neg (by simp [negL]; omega)]
  have h1 : bothF [[]] (negL l) = some (reducedL (prodL [[]] (negL l))) := by
    unfold bothF; rw [hb]; dsimp only; rw [if_neg (by simp [negL]; omega)]
  have h2 := reducedL_len (prodL [[]] (negL l))
  have h3 := prodL_len [[]] (negL l)
  have h4 : (negL l).length = l.length := by simp [negL]
  exact ⟨_, by rw [negF, negFrom, h1]; simp only; rw [if_pos (by simp at h3; omega)]; rfl⟩
/-- The weakest precondition; none: too many terms. -/
def aheadF (a : FAct) (f : List (List FLit)) : Option (List (List FLit)) :=
  match backF a f with
  | none => none
  | some g => let r := reducedL ((negF [a.pre]).getD [] ++ g); if r.length ≤ 400 then some r else none
def c_Ahead : CCode := .seq (.ops [⟨some 2, .box (.tmp 0), none, []⟩, ⟨some 4, .move (.lit (.slice .nil [])), none, []⟩, ⟨some 5, .move (.lit (.bool false)), none, []⟩]) (.seq (.ops [⟨some 12, .load (some 4) (.tmp 2), none, []⟩, ⟨some 13, .move (.tmp 1), none, []⟩, ⟨some 14, .call (.lit (.func 41 [])) [.tmp 12, .tmp 13], none, []⟩, ⟨some 11, .move (.tmp 14), none, []⟩, ⟨some 15, .extract (.tmp 11) 0, none, []⟩, ⟨some 16, .extract (.tmp 11) 1, none, []⟩, ⟨some 6, .move (.tmp 15), none, []⟩, ⟨some 7, .move (.tmp 16), none, []⟩]) (.seq (.seq (.ops [⟨some 17, .move (.tmp 7), none, []⟩, ⟨some 18, .un .not (.tmp 17), none, []⟩]) (.cond (.tmp 18) (.seq (.ops [⟨some 4, .move (.lit (.slice .nil [])), none, []⟩, ⟨some 5, .move (.lit (.bool false)), none, []⟩]) .ret) .skip)) (.seq (.ops [⟨some 20, .faddr 2 (.tmp 2), none, []⟩, ⟨some 21, .load none (.tmp 20), none, []⟩, ⟨some 22, .bslice 1 [.tmp 21] false, none, []⟩, ⟨some 23, .call (.lit (.func 44 [])) [.tmp 22], none, []⟩, ⟨some 19, .move (.tmp 23), none, []⟩, ⟨some 24, .extract (.tmp 19) 0, none, []⟩, ⟨some 25, .extract (.tmp 19) 1, none, []⟩, ⟨some 8, .move (.tmp 24), none, []⟩, ⟨some 9, .move (.tmp 25), none, []⟩]) (.seq (.ops [⟨some 26, .move (.tmp 8), none, []⟩, ⟨some 27, .move (.tmp 6), none, []⟩, ⟨some 28, .bappend 1 24 (.tmp 26) (.tmp 27) false, none, []⟩, ⟨some 29, .call (.lit (.func 29 [])) [.tmp 28], none, []⟩, ⟨some 10, .move (.tmp 29), none, []⟩]) (.seq (.ops [⟨some 30, .move (.tmp 10), none, []⟩, ⟨some 31, .move (.tmp 10), none, []⟩, ⟨some 32, .blen 1 (.tmp 31), none, []⟩, ⟨some 33, .bin .leq .none (.tmp 32) (.lit (.int .i64 400)), none, []⟩, ⟨some 4, .move (.tmp 30), none, []⟩, ⟨some 5, .move (.tmp 33), none, []⟩]) .ret)))))
set_option maxRecDepth 20000 in
theorem Ahead_specF (n : Int) (hn : n ≤ 400) (a : FAct) (f : List (List FLit)) (tok : Tok) (σ : Store) (ha : AV_ n a) (hf : f.length ≤ 1000000) (vf : vF n f) :
    ACalls Tryz.prog 43 [.agg (encA a), .slice tok (f.map encC)] σ (isR (retOf (aheadF a f)) σ) := by
  refine ACalls.intro (rs := [(.tmp 4), (.tmp 5)]) (by kernel_rfl) { own := [], ghosts := [] } Tryz.func43 (c := Tryz.f43.body.getD .skip) (by kernel_rfl) (by decide) (by rw [show Tryz.f43.ntmps = 34 by kernel_rfl]; exact Nat.le_of_ble_eq_true rfl) (by kernel_rfl) ?_
  intro hσ hids
  rw [show comp Tryz.prog { own := [], ghosts := [] } (Tryz.f43.body.getD .skip) = c_Ahead by kernel_rfl, show Tryz.f43.ntmps = 34 by kernel_rfl]
  unfold c_Ahead
  simp only [go_sem, Int.reduceToNat, Int.reduceLE, Int.reduceLT, Nat.reduceBEq, Nat.reduceLT, Nat.reduceAdd, Nat.reduceLeDiff, encA]
  refine (Back_spec n (by omega) a f tok _ ha hf vf).is ?_
  cases hb : backF a f with
  | none =>
    simp only [go_sem, Int.reduceToNat, Int.reduceLE, Int.reduceLT, Nat.reduceBEq, Nat.reduceLT, Nat.reduceAdd, Nat.reduceLeDiff, retO, retOf]
    first | exact rtl (.any) (.bool false) ⟨by rw [aheadF, hb], rfl⟩ | exact rtl0 (.any) (.bool false) ⟨by rw [aheadF, hb], rfl⟩
  | some g =>
    have hg := backF_V ha vf hb
    obtain ⟨k, hk⟩ := neg_one hn ha.pre
    have hkl := negF_len hk
    simp only [go_sem, Int.reduceToNat, Int.reduceLE, Int.reduceLT, Nat.reduceBEq, Nat.reduceLT, Nat.reduceAdd, Nat.reduceLeDiff, retO, retOf]
    refine ((negated_spec n (by omega) [a.pre] _ _ (by simp) (one_V ha.pre))).mono ?_
    rw [hk]
    rintro _ _ ⟨rfl, rfl⟩
    have hbig : bigLen (k.length + g.length) 24 := big_ok (by omega) (by omega)
    have hall : ∀ y ∈ g, (encC y).length = 1 ∧ (encC y).all AV.one = true := fun y _ => ⟨rfl, rfl⟩
    simp only [go_sem, Int.reduceToNat, Int.reduceLE, Int.reduceLT, Nat.reduceBEq, Nat.reduceLT, Nat.reduceAdd, Nat.reduceLeDiff, hbig, ← List.map_append]
    refine ⟨hall, ?_⟩
    refine (reduced_specF (k ++ g) _ _ ((append_V (negF_V (one_V ha.pre) hk) hg.1).ok (by omega) (by rw [List.length_append]; omega))).mono ?_
    rintro _ _ ⟨rfl, rfl⟩
    have he : aheadF a f = if (reducedL (k ++ g)).length ≤ 400 then some (reducedL (k ++ g)) else none := by rw [aheadF, hb, hk]; rfl
    by_cases h4 : (reducedL (k ++ g)).length ≤ 400
    · have h4' : ((reducedL (k ++ g)).length : Int) ≤ 400 := by omega
      simp only [go_sem, Int.reduceToNat, Int.reduceLE, Int.reduceLT, Nat.reduceBEq, Nat.reduceLT, Nat.reduceAdd, Nat.reduceLeDiff, h4']
      rw [he, if_pos h4]
      first | exact rtl (.slice .fresh ((reducedL (k ++ g)).map encCf)) (.bool true) ⟨rfl, rfl⟩ | exact rtl0 (.slice .fresh ((reducedL (k ++ g)).map encCf)) (.bool true) ⟨rfl, rfl⟩
    · have h4' : ¬ ((reducedL (k ++ g)).length : Int) ≤ 400 := by omega
      simp only [go_sem, Int.reduceToNat, Int.reduceLE, Int.reduceLT, Nat.reduceBEq, Nat.reduceLT, Nat.reduceAdd, Nat.reduceLeDiff, h4']
      rw [he, if_neg h4]
      first | exact rtl (.any) (.bool false) ⟨rfl, rfl⟩ | exact rtl0 (.any) (.bool false) ⟨rfl, rfl⟩
def c_toldA : CCode := .seq (.ops [⟨some 4, .move (.lit (.slice .nil [])), none, []⟩, ⟨some 5, .move (.lit (.int .i64 0)), none, []⟩]) (.seq (.seq (.ops [⟨some 6, .move (.tmp 1), none, []⟩, ⟨some 7, .un .not (.tmp 6), none, []⟩, ⟨some 8, .move (.tmp 7), none, []⟩, ⟨some 9, .move (.tmp 0), some (some 8, false), []⟩, ⟨some 10, .blen 1 (.tmp 9), some (some 8, false), []⟩, ⟨some 11, .bin .gtr .none (.tmp 10) (.lit (.int .i64 400)), some (some 8, false), []⟩, ⟨some 12, .pick (.tmp 8) (.lit (.bool true)) (.tmp 11), none, []⟩]) (.cond (.tmp 12) (.seq (.ops [⟨some 4, .move (.lit (.slice .nil [])), none, []⟩, ⟨some 5, .move (.lit (.int .i64 2)), none, []⟩]) .ret) .skip)) (.seq (.ops [⟨some 13, .move (.tmp 0), none, []⟩, ⟨some 4, .move (.tmp 13), none, []⟩, ⟨some 5, .move (.lit (.int .i64 0)), none, []⟩]) .ret))
set_option maxRecDepth 20000 in
theorem told_any (σ : Store) : ACalls Tryz.prog 40 [.any, .bool false] σ (isR (.tuple [.slice .nil [], .int .i64 2]) σ) := by
  refine ACalls.intro (rs := [(.tmp 4), (.tmp 5)]) (by kernel_rfl) { own := [], ghosts := [] } Tryz.func40 (c := Tryz.f40.body.getD .skip) (by kernel_rfl) (by decide) (by rw [show Tryz.f40.ntmps = 14 by kernel_rfl]; exact Nat.le_of_ble_eq_true rfl) (by kernel_rfl) ?_
  intro hσ hids
  rw [show comp Tryz.prog { own := [], ghosts := [] } (Tryz.f40.body.getD .skip) = c_toldA by kernel_rfl, show Tryz.f40.ntmps = 14 by kernel_rfl]
  unfold c_toldA
  simp only [go_sem, Int.reduceToNat, Int.reduceLE, Int.reduceLT, Nat.reduceBEq, Nat.reduceLT, Nat.reduceAdd, Nat.reduceLeDiff]
  first | exact rtl (.slice .nil []) (.int .i64 2) ⟨rfl, rfl⟩ | exact rtl0 (.slice .nil []) (.int .i64 2) ⟨rfl, rfl⟩
def actE (t : FTask) (i : Int) (f : List (List FLit)) : Int := if checkE t f = 0 then (if 0 ≤ i ∧ i < t.actions.length then 0 else 1) else checkE t f
def c_act : CCode := .seq (.ops [⟨some 3, .box (.tmp 0), none, []⟩, ⟨some 6, .move (.lit (.int .i64 0)), none, []⟩]) (.seq (.seq (.ops [⟨some 8, .load (some 4) (.tmp 3), none, []⟩, ⟨some 9, .move (.tmp 2), none, []⟩, ⟨some 10, .call (.lit (.func 11 [])) [.tmp 8, .tmp 9], none, []⟩, ⟨some 7, .move (.tmp 10), none, []⟩]) (.seq (.ops [⟨some 11, .move (.tmp 7), none, []⟩, ⟨some 12, .bin .neq .none (.tmp 11) (.lit (.int .i64 0)), none, []⟩]) (.cond (.tmp 12) (.seq (.ops [⟨some 13, .move (.tmp 7), none, []⟩, ⟨some 6, .move (.tmp 13), none, []⟩]) .ret) .skip))) (.seq (.seq (.ops [⟨some 14, .move (.tmp 1), none, []⟩, ⟨some 15, .bin .lss .none (.tmp 14) (.lit (.int .i64 0)), none, []⟩, ⟨some 16, .move (.tmp 15), none, []⟩, ⟨some 17, .move (.tmp 1), some (some 16, false), []⟩, ⟨some 18, .faddr 3 (.tmp 3), some (some 16, false), []⟩, ⟨some 19, .load none (.tmp 18), some (some 16, false), []⟩, ⟨some 20, .blen 1 (.tmp 19), some (some 16, false), []⟩, ⟨some 21, .bin .geq .none (.tmp 17) (.tmp 20), some (some 16, false), []⟩, ⟨some 22, .pick (.tmp 16) (.lit (.bool true)) (.tmp 21), none, []⟩]) (.cond (.tmp 22) (.seq (.ops [⟨some 6, .move (.lit (.int .i64 1)), none, []⟩]) .ret) .skip)) (.seq (.ops [⟨some 6, .move (.lit (.int .i64 0)), none, []⟩]) .ret)))
set_option maxRecDepth 20000 in
theorem act_spec (t : FTask) (i : Int) (f : List (List FLit)) (tok : Tok) (σ : Store) (ht : TB t) (hf : f.length ≤ 140737488355328) (hl : ∀ l ∈ f, l.length ≤ 140737488355328) :
    ACalls Tryz.prog 39 [.agg (encTask t), .int .i64 i, .slice tok (f.map encC)] σ (isR (.int .i64 (actE t i f)) σ) := by
  refine ACalls.intro (rs := [(.tmp 6)]) (by kernel_rfl) { own := [], ghosts := [] } Tryz.func39 (c := Tryz.f39.body.getD .skip) (by kernel_rfl) (by decide) (by rw [show Tryz.f39.ntmps = 23 by kernel_rfl]; exact Nat.le_of_ble_eq_true rfl) (by kernel_rfl) ?_
  intro hσ hids
  rw [show comp Tryz.prog { own := [], ghosts := [] } (Tryz.f39.body.getD .skip) = c_act by kernel_rfl, show Tryz.f39.ntmps = 23 by kernel_rfl]
  unfold c_act
  simp only [go_sem, Int.reduceToNat, Int.reduceLE, Int.reduceLT, Nat.reduceBEq, Nat.reduceLT, Nat.reduceAdd, Nat.reduceLeDiff, encTask]
  refine (check07_spec t f tok _ ht hf hl).is ?_
  by_cases h1 : checkE t f = 0
  · rw [h1]
    by_cases h2 : i < 0
    · simp only [go_sem, Int.reduceToNat, Int.reduceLE, Int.reduceLT, Nat.reduceBEq, Nat.reduceLT, Nat.reduceAdd, Nat.reduceLeDiff, h2]
      first | exact rtk (.int .i64 1) ⟨by rw [actE, if_pos h1, if_neg (by omega)], rfl⟩ | exact rtk0 (.int .i64 1) ⟨by rw [actE, if_pos h1, if_neg (by omega)], rfl⟩
    by_cases h3 : i ≥ t.actions.length
    · simp only [go_sem, Int.reduceToNat, Int.reduceLE, Int.reduceLT, Nat.reduceBEq, Nat.reduceLT, Nat.reduceAdd, Nat.reduceLeDiff, h2, h3]
      first | exact rtk (.int .i64 1) ⟨by rw [actE, if_pos h1, if_neg (by omega)], rfl⟩ | exact rtk0 (.int .i64 1) ⟨by rw [actE, if_pos h1, if_neg (by omega)], rfl⟩
    · simp only [go_sem, Int.reduceToNat, Int.reduceLE, Int.reduceLT, Nat.reduceBEq, Nat.reduceLT, Nat.reduceAdd, Nat.reduceLeDiff, h2, h3]
      first | exact rtk (.int .i64 0) ⟨by rw [actE, if_pos h1, if_pos (by omega)], rfl⟩ | exact rtk0 (.int .i64 0) ⟨by rw [actE, if_pos h1, if_pos (by omega)], rfl⟩
  · have h1' : (checkE t f != 0) = true := by simpa using h1
    simp only [go_sem, Int.reduceToNat, Int.reduceLE, Int.reduceLT, Nat.reduceBEq, Nat.reduceLT, Nat.reduceAdd, Nat.reduceLeDiff, h1']
    first | exact rtw (v := .int .i64 _) wkS ⟨by rw [actE, if_neg h1], rfl⟩ | exact rtw0 (v := .int .i64 _) wkS ⟨by rw [actE, if_neg h1], rfl⟩
/-- What an exported function that makes a formula comes back as: the error ahead, or the formula, or 'too large'. -/
def retF (e : Int) (o : Option (List (List FLit))) : AV :=
  if e = 0 then (match o with | none => .tuple [.slice .nil [], .int .i64 2] | some h => .tuple [.slice .unk (h.map encC), .int .i64 0]) else .tuple [.slice .nil [], .int .i64 e]
def retFf (e : Int) (o : Option (List (List FLit))) : AV :=
  if e = 0 then (match o with | none => .tuple [.slice .nil [], .int .i64 2] | some h => .tuple [.slice .fresh (h.map encCf), .int .i64 0]) else .tuple [.slice .nil [], .int .i64 e]
theorem retFf_wk (e : Int) (o : Option (List (List FLit))) : Wk (retFf e o) (retF e o) := by
  unfold retFf retF
  by_cases h : e = 0
  · rw [if_pos h, if_pos h]
    cases o with
    | none => exact .refl _
    | some h => exact Wk.tuple (.cons (Wk.cfu _ _) (WkL.one (.refl _)))
  · rw [if_neg h, if_neg h]; exact .refl _
theorem retFf_ne {e : Int} (h : ¬ e = 0) (o : Option (List (List FLit))) : retFf e o = .tuple [.slice .nil [], .int .i64 e] := by unfold retFf; rw [if_neg h]
theorem retF_ne {e : Int} (h : ¬ e = 0) (o : Option (List (List FLit))) : retF e o = .tuple [.slice .nil [], .int .i64 e] := by unfold retF; rw [if_neg h]
/-! ### What a valid task and formula are -/
theorem isForm_V {n : Int} {f : List (List FLit)} (h : isForm n f = true) : f.length ≤ 400 ∧ vF n f := by
  rw [isForm, Bool.and_eq_true] at h
  refine ⟨of_decide_eq_true h.1, fun l hl => ?_⟩
  exact List.all_eq_true.1 h.2 l hl
theorem checkE_zero {t : FTask} {f : List (List FLit)} (h : checkE t f = 0) : validB t = true ∧ isForm t.facts.length f = true := by
  unfold checkE at h
  cases h1 : validB t with
  | false => rw [h1] at h; simp at h
  | true =>
    cases h2 : isForm t.facts.length f with
    | false => rw [h1, h2] at h; simp at h
    | true => exact ⟨rfl, rfl⟩
theorem fineE_zero {t : FTask} : ∀ {fs : List (List (List FLit))}, fineE t fs = 0 → ∀ f ∈ fs, checkE t f = 0
  | [], _, f, hf => by simp at hf
  | g :: r, h, f, hf => by
    rw [fineE] at h
    by_cases h1 : checkE t g = 0
    · rw [if_pos h1] at h
      rcases List.mem_cons.1 hf with rfl | hf
      · exact h1
      · exact fineE_zero h f hf
    · rw [if_neg h1] at h; exact absurd h h1
theorem valid_facts {t : FTask} (h : validB t = true) : (t.facts.length : Int) ≤ 200 := by
  rw [validB, Bool.and_eq_true] at h
  have := of_decide_eq_true h.1; omega
theorem valid_act {t : FTask} (h : validB t = true) {a : FAct} (ha : a ∈ t.actions) : AV_ t.facts.length a := by
  simp only [validB, Bool.and_eq_true] at h
  have := List.all_eq_true.1 h.2.2.2.2.2.2 a ha
  simp only [actB, Bool.and_eq_true] at this
  obtain ⟨_, _, h3, h4, h5⟩ := this
  refine ⟨h3, fun e he => ?_, by have := of_decide_eq_true h4; omega⟩
  have := List.all_eq_true.1 h5 e he
  simp only [effB, Bool.and_eq_true] at this
  exact this.1
def c_Regress : CCode := .seq (.ops [⟨some 3, .box (.tmp 0), none, []⟩, ⟨some 6, .move (.lit (.slice .nil [])), none, []⟩, ⟨some 7, .move (.lit (.int .i64 0)), none, []⟩]) (.seq (.seq (.ops [⟨some 9, .load (some 4) (.tmp 3), none, []⟩, ⟨some 10, .move (.tmp 1), none, []⟩, ⟨some 11, .move (.tmp 2), none, []⟩, ⟨some 12, .call (.lit (.func 39 [])) [.tmp 9, .tmp 10, .tmp 11], none, []⟩, ⟨some 8, .move (.tmp 12), none, []⟩]) (.seq (.ops [⟨some 13, .move (.tmp 8), none, []⟩, ⟨some 14, .bin .neq .none (.tmp 13) (.lit (.int .i64 0)), none, []⟩]) (.cond (.tmp 14) (.seq (.ops [⟨some 15, .move (.tmp 8), none, []⟩, ⟨some 6, .move (.lit (.slice .nil [])), none, []⟩, ⟨some 7, .move (.tmp 15), none, []⟩]) .ret) .skip))) (.seq (.ops [⟨some 16, .faddr 3 (.tmp 3), none, []⟩, ⟨some 17, .load none (.tmp 16), none, []⟩, ⟨some 18, .move (.tmp 1), none, []⟩, ⟨some 19, .iaddr 4 (.tmp 17) (.tmp 18), none, []⟩, ⟨some 20, .load (some 4) (.tmp 19), none, []⟩, ⟨some 21, .move (.tmp 2), none, []⟩, ⟨some 22, .call (.lit (.func 41 [])) [.tmp 20, .tmp 21], none, []⟩, ⟨some 23, .extract (.tmp 22) 0, none, []⟩, ⟨some 24, .extract (.tmp 22) 1, none, []⟩, ⟨some 25, .call (.lit (.func 40 [])) [.tmp 23, .tmp 24], none, []⟩, ⟨some 26, .extract (.tmp 25) 0, none, []⟩, ⟨some 27, .extract (.tmp 25) 1, none, []⟩, ⟨some 6, .move (.tmp 26), none, []⟩, ⟨some 7, .move (.tmp 27), none, []⟩]) .ret))
set_option maxRecDepth 20000 in
theorem Regress_specF (t : FTask) (i : Int) (f : List (List FLit)) (tok : Tok) (σ : Store) (ht : TB t) (hf : FB f) :
    ACalls Tryz.prog 15 [.agg (encTask t), .int .i64 i, .slice tok (f.map encC)] σ (isR (retFf (actE t i f) (backF (t.actions.getD i.toNat ⟨.empty, 0, [], []⟩) f)) σ) := by
  refine ACalls.intro (rs := [(.tmp 6), (.tmp 7)]) (by kernel_rfl) { own := [], ghosts := [] } Tryz.func15 (c := Tryz.f15.body.getD .skip) (by kernel_rfl) (by decide) (by rw [show Tryz.f15.ntmps = 28 by kernel_rfl]; exact Nat.le_of_ble_eq_true rfl) (by kernel_rfl) ?_
  intro hσ hids
  rw [show comp Tryz.prog { own := [], ghosts := [] } (Tryz.f15.body.getD .skip) = c_Regress by kernel_rfl, show Tryz.f15.ntmps = 28 by kernel_rfl]
  unfold c_Regress
  simp only [go_sem, Int.reduceToNat, Int.reduceLE, Int.reduceLT, Nat.reduceBEq, Nat.reduceLT, Nat.reduceAdd, Nat.reduceLeDiff, encTask]
  refine (act_spec t i f tok _ ht hf.1 hf.2).is ?_
  by_cases h1 : actE t i f = 0
  · have h0 := h1
    unfold actE at h0
    by_cases hc : checkE t f = 0
    · rw [if_pos hc] at h0
      by_cases hi : 0 ≤ i ∧ i < t.actions.length
      · have hv := checkE_zero hc
        have hfv := isForm_V hv.2
        have hn := valid_facts hv.1
        obtain ⟨a, ha⟩ : ∃ a, t.actions[i.toNat]? = some a := get_ex (by omega)
        have hA := valid_act hv.1 (List.mem_of_getElem? ha)
        have hg : t.actions.getD i.toNat ⟨.empty, 0, [], []⟩ = a := by rw [List.getD_eq_getElem?_getD, ha]; rfl
        rw [hg, h1]
        simp only [go_sem, Int.reduceToNat, Int.reduceLE, Int.reduceLT, Nat.reduceBEq, Nat.reduceLT, Nat.reduceAdd, Nat.reduceLeDiff, hi.1, ha, encA]
        refine (Back_specF t.facts.length (by omega) a f tok _ hA (by have := hfv.1; omega) hfv.2).is ?_
        cases hb : backF a f with
        | none =>
          simp only [go_sem, Int.reduceToNat, Int.reduceLE, Int.reduceLT, Nat.reduceBEq, Nat.reduceLT, Nat.reduceAdd, Nat.reduceLeDiff, retO, retOf]
          refine (told_any _).is ?_
          simp only [go_sem, Int.reduceToNat, Int.reduceLE, Int.reduceLT, Nat.reduceBEq, Nat.reduceLT, Nat.reduceAdd, Nat.reduceLeDiff]
          first | exact rtl (.slice .nil []) (.int .i64 2) ⟨rfl, rfl⟩ | exact rtl0 (.slice .nil []) (.int .i64 2) ⟨rfl, rfl⟩
        | some h =>
          have hl := (backF_V hA hfv.2 hb).2
          simp only [go_sem, Int.reduceToNat, Int.reduceLE, Int.reduceLT, Nat.reduceBEq, Nat.reduceLT, Nat.reduceAdd, Nat.reduceLeDiff, retO, retOf]
          refine (told_spec _ _ true _).is ?_
          rw [if_pos ⟨rfl, by rw [List.length_map]; exact hl⟩]
          simp only [go_sem, Int.reduceToNat, Int.reduceLE, Int.reduceLT, Nat.reduceBEq, Nat.reduceLT, Nat.reduceAdd, Nat.reduceLeDiff]
          first | exact rtl (.slice .fresh (h.map encCf)) (.int .i64 0) ⟨rfl, rfl⟩ | exact rtl0 (.slice .fresh (h.map encCf)) (.int .i64 0) ⟨rfl, rfl⟩
      · rw [if_neg hi] at h0; simp at h0
    · rw [if_neg hc] at h0; exact absurd h0 hc
  · have h1' : (actE t i f != 0) = true := by simpa using h1
    simp only [go_sem, Int.reduceToNat, Int.reduceLE, Int.reduceLT, Nat.reduceBEq, Nat.reduceLT, Nat.reduceAdd, Nat.reduceLeDiff, h1']
    first | exact rtl (.slice .nil []) (.int .i64 (actE t i f)) ⟨(retFf_ne h1 _).symm, rfl⟩ | exact rtl0 (.slice .nil []) (.int .i64 (actE t i f)) ⟨(retFf_ne h1 _).symm, rfl⟩
def c_Weakest : CCode := .seq (.ops [⟨some 3, .box (.tmp 0), none, []⟩, ⟨some 6, .move (.lit (.slice .nil [])), none, []⟩, ⟨some 7, .move (.lit (.int .i64 0)), none, []⟩]) (.seq (.seq (.ops [⟨some 9, .load (some 4) (.tmp 3), none, []⟩, ⟨some 10, .move (.tmp 1), none, []⟩, ⟨some 11, .move (.tmp 2), none, []⟩, ⟨some 12, .call (.lit (.func 39 [])) [.tmp 9, .tmp 10, .tmp 11], none, []⟩, ⟨some 8, .move (.tmp 12), none, []⟩]) (.seq (.ops [⟨some 13, .move (.tmp 8), none, []⟩, ⟨some 14, .bin .neq .none (.tmp 13) (.lit (.int .i64 0)), none, []⟩]) (.cond (.tmp 14) (.seq (.ops [⟨some 15, .move (.tmp 8), none, []⟩, ⟨some 6, .move (.lit (.slice .nil [])), none, []⟩, ⟨some 7, .move (.tmp 15), none, []⟩]) .ret) .skip))) (.seq (.ops [⟨some 16, .faddr 3 (.tmp 3), none, []⟩, ⟨some 17, .load none (.tmp 16), none, []⟩, ⟨some 18, .move (.tmp 1), none, []⟩, ⟨some 19, .iaddr 4 (.tmp 17) (.tmp 18), none, []⟩, ⟨some 20, .load (some 4) (.tmp 19), none, []⟩, ⟨some 21, .move (.tmp 2), none, []⟩, ⟨some 22, .call (.lit (.func 43 [])) [.tmp 20, .tmp 21], none, []⟩, ⟨some 23, .extract (.tmp 22) 0, none, []⟩, ⟨some 24, .extract (.tmp 22) 1, none, []⟩, ⟨some 25, .call (.lit (.func 40 [])) [.tmp 23, .tmp 24], none, []⟩, ⟨some 26, .extract (.tmp 25) 0, none, []⟩, ⟨some 27, .extract (.tmp 25) 1, none, []⟩, ⟨some 6, .move (.tmp 26), none, []⟩, ⟨some 7, .move (.tmp 27), none, []⟩]) .ret))
set_option maxRecDepth 20000 in
theorem Weakest_specF (t : FTask) (i : Int) (f : List (List FLit)) (tok : Tok) (σ : Store) (ht : TB t) (hf : FB f) :
    ACalls Tryz.prog 18 [.agg (encTask t), .int .i64 i, .slice tok (f.map encC)] σ (isR (retFf (actE t i f) (aheadF (t.actions.getD i.toNat ⟨.empty, 0, [], []⟩) f)) σ) := by
  refine ACalls.intro (rs := [(.tmp 6), (.tmp 7)]) (by kernel_rfl) { own := [], ghosts := [] } Tryz.func18 (c := Tryz.f18.body.getD .skip) (by kernel_rfl) (by decide) (by rw [show Tryz.f18.ntmps = 28 by kernel_rfl]; exact Nat.le_of_ble_eq_true rfl) (by kernel_rfl) ?_
  intro hσ hids
  rw [show comp Tryz.prog { own := [], ghosts := [] } (Tryz.f18.body.getD .skip) = c_Weakest by kernel_rfl, show Tryz.f18.ntmps = 28 by kernel_rfl]
  unfold c_Weakest
  simp only [go_sem, Int.reduceToNat, Int.reduceLE, Int.reduceLT, Nat.reduceBEq, Nat.reduceLT, Nat.reduceAdd, Nat.reduceLeDiff, encTask]
  refine (act_spec t i f tok _ ht hf.1 hf.2).is ?_
  by_cases h1 : actE t i f = 0
  · have h0 := h1
    unfold actE at h0
    by_cases hc : checkE t f = 0
    · rw [if_pos hc] at h0
      by_cases hi : 0 ≤ i ∧ i < t.actions.length
      · have hv := checkE_zero hc
        have hfv := isForm_V hv.2
        have hn := valid_facts hv.1
        obtain ⟨a, ha⟩ : ∃ a, t.actions[i.toNat]? = some a := get_ex (by omega)
        have hA := valid_act hv.1 (List.mem_of_getElem? ha)
        have hg : t.actions.getD i.toNat ⟨.empty, 0, [], []⟩ = a := by rw [List.getD_eq_getElem?_getD, ha]; rfl
        rw [hg, h1]
        simp only [go_sem, Int.reduceToNat, Int.reduceLE, Int.reduceLT, Nat.reduceBEq, Nat.reduceLT, Nat.reduceAdd, Nat.reduceLeDiff, hi.1, ha, encA]
        refine (Ahead_specF t.facts.length (by omega) a f tok _ hA (by have := hfv.1; omega) hfv.2).is ?_
        cases hb : aheadF a f with
        | none =>
          simp only [go_sem, Int.reduceToNat, Int.reduceLE, Int.reduceLT, Nat.reduceBEq, Nat.reduceLT, Nat.reduceAdd, Nat.reduceLeDiff, retO, retOf]
          refine (told_any _).is ?_
          simp only [go_sem, Int.reduceToNat, Int.reduceLE, Int.reduceLT, Nat.reduceBEq, Nat.reduceLT, Nat.reduceAdd, Nat.reduceLeDiff]
          first | exact rtl (.slice .nil []) (.int .i64 2) ⟨rfl, rfl⟩ | exact rtl0 (.slice .nil []) (.int .i64 2) ⟨rfl, rfl⟩
        | some h =>
          have hl : h.length ≤ 400 := by
            unfold aheadF at hb
            cases hq : backF a f with
            | none => rw [hq] at hb; simp at hb
            | some g =>
              rw [hq] at hb; simp only at hb
              split at hb
              · injection hb with hb; subst hb; assumption
              · simp at hb
          simp only [go_sem, Int.reduceToNat, Int.reduceLE, Int.reduceLT, Nat.reduceBEq, Nat.reduceLT, Nat.reduceAdd, Nat.reduceLeDiff, retO, retOf]
          refine (told_spec _ _ true _).is ?_
          rw [if_pos ⟨rfl, by rw [List.length_map]; exact hl⟩]
          simp only [go_sem, Int.reduceToNat, Int.reduceLE, Int.reduceLT, Nat.reduceBEq, Nat.reduceLT, Nat.reduceAdd, Nat.reduceLeDiff]
          first | exact rtl (.slice .fresh (h.map encCf)) (.int .i64 0) ⟨rfl, rfl⟩ | exact rtl0 (.slice .fresh (h.map encCf)) (.int .i64 0) ⟨rfl, rfl⟩
      · rw [if_neg hi] at h0; simp at h0
    · rw [if_neg hc] at h0; exact absurd h0 hc
  · have h1' : (actE t i f != 0) = true := by simpa using h1
    simp only [go_sem, Int.reduceToNat, Int.reduceLE, Int.reduceLT, Nat.reduceBEq, Nat.reduceLT, Nat.reduceAdd, Nat.reduceLeDiff, h1']
    first | exact rtl (.slice .nil []) (.int .i64 (actE t i f)) ⟨(retFf_ne h1 _).symm, rfl⟩ | exact rtl0 (.slice .nil []) (.int .i64 (actE t i f)) ⟨(retFf_ne h1 _).symm, rfl⟩
theorem Regress_spec (t : FTask) (i : Int) (f : List (List FLit)) (tok : Tok) (σ : Store) (ht : TB t) (hf : FB f) :
    ACalls Tryz.prog 15 [.agg (encTask t), .int .i64 i, .slice tok (f.map encC)] σ (isR (retF (actE t i f) (backF (t.actions.getD i.toNat ⟨.empty, 0, [], []⟩) f)) σ) := (Regress_specF t i f tok σ ht hf).wkR (retFf_wk _ _)
theorem Weakest_spec (t : FTask) (i : Int) (f : List (List FLit)) (tok : Tok) (σ : Store) (ht : TB t) (hf : FB f) :
    ACalls Tryz.prog 18 [.agg (encTask t), .int .i64 i, .slice tok (f.map encC)] σ (isR (retF (actE t i f) (aheadF (t.actions.getD i.toNat ⟨.empty, 0, [], []⟩) f)) σ) := (Weakest_specF t i f tok σ ht hf).wkR (retFf_wk _ _)
end Go.Proofs.YtbnhijapbnfohaaGreat
namespace Go.Proofs.YtbnhijapbnfohaaGreat
open Go.Ahl
theorem wk_two (t1 t2 t3 : Tok) (f g : List (List FLit)) : Wk (.slice t3 [[.slice t1 (f.map encC)], [.slice t2 (g.map encC)]]) (.slice .unk ([f, g].map encF)) :=
  Wk.sl _ (.cons (WkL.one (Wk.unk _ _)) (WkLL.one (WkL.one (Wk.unk _ _))))
theorem wk_one (t1 t3 : Tok) (f : List (List FLit)) : Wk (.slice t3 [[.slice t1 (f.map encC)]]) (.slice .unk ([f].map encF)) :=
  Wk.sl _ (WkLL.one (WkL.one (Wk.unk _ _)))
theorem fine_two {t : FTask} {f g : List (List FLit)} (h : fineE t [f, g] = 0) : (t.facts.length : Int) ≤ 200 ∧ validB t = true ∧ f.length ≤ 400 ∧ g.length ≤ 400 ∧ vF t.facts.length f ∧ vF t.facts.length g := by
  have h1 := checkE_zero (fineE_zero h f (by simp))
  have h2 := checkE_zero (fineE_zero h g (by simp))
  have f1 := isForm_V h1.2
  have f2 := isForm_V h2.2
  exact ⟨valid_facts h1.1, h1.1, f1.1, f2.1, f1.2, f2.2⟩
theorem fine_one {t : FTask} {f : List (List FLit)} (h : fineE t [f] = 0) : (t.facts.length : Int) ≤ 200 ∧ validB t = true ∧ f.length ≤ 400 ∧ vF t.facts.length f := by
  have h1 := checkE_zero (fineE_zero h f (by simp))
  have f1 := isForm_V h1.2
  exact ⟨valid_facts h1.1, h1.1, f1.1, f1.2⟩
def upTo (o : Option (List (List FLit))) : Option (List (List FLit)) := match o with
  | none => none
  | some h => if h.length ≤ 400 then some h else none
def c_Or : CCode := .seq (.ops [⟨some 3, .box (.tmp 0), none, []⟩, ⟨some 6, .move (.lit (.slice .nil [])), none, []⟩, ⟨some 7, .move (.lit (.int .i64 0)), none, []⟩]) (.seq (.seq (.ops [⟨some 9, .load (some 4) (.tmp 3), none, []⟩, ⟨some 10, .move (.tmp 1), none, []⟩, ⟨some 11, .move (.tmp 2), none, []⟩, ⟨some 12, .bslice 1 [.tmp 10, .tmp 11] false, none, []⟩, ⟨some 13, .call (.lit (.func 28 [])) [.tmp 9, .tmp 12], none, []⟩, ⟨some 8, .move (.tmp 13), none, []⟩]) (.seq (.ops [⟨some 14, .move (.tmp 8), none, []⟩, ⟨some 15, .bin .neq .none (.tmp 14) (.lit (.int .i64 0)), none, []⟩]) (.cond (.tmp 15) (.seq (.ops [⟨some 16, .move (.tmp 8), none, []⟩, ⟨some 6, .move (.lit (.slice .nil [])), none, []⟩, ⟨some 7, .move (.tmp 16), none, []⟩]) .ret) .skip))) (.seq (.ops [⟨some 17, .move (.tmp 1), none, []⟩, ⟨some 18, .call (.lit (.func 42 [])) [.tmp 17], none, []⟩, ⟨some 19, .move (.tmp 2), none, []⟩, ⟨some 20, .bappend 1 24 (.tmp 18) (.tmp 19) false, none, []⟩, ⟨some 21, .call (.lit (.func 29 [])) [.tmp 20], none, []⟩, ⟨some 22, .call (.lit (.func 40 [])) [.tmp 21, .lit (.bool true)], none, []⟩, ⟨some 23, .extract (.tmp 22) 0, none, []⟩, ⟨some 24, .extract (.tmp 22) 1, none, []⟩, ⟨some 6, .move (.tmp 23), none, []⟩, ⟨some 7, .move (.tmp 24), none, []⟩]) .ret))
set_option maxRecDepth 20000 in
theorem Or_specF (t : FTask) (f g : List (List FLit)) (tok tok' : Tok) (σ : Store) (ht : TB t) (hf : FB f) (hg : FB g) :
    ACalls Tryz.prog 16 [.agg (encTask t), .slice tok (f.map encC), .slice tok' (g.map encC)] σ (isR (retFf (fineE t [f, g]) (upTo (some (reducedL (f ++ g))))) σ) := by
  refine ACalls.intro (rs := [(.tmp 6), (.tmp 7)]) (by kernel_rfl) { own := [], ghosts := [] } Tryz.func16 (c := Tryz.f16.body.getD .skip) (by kernel_rfl) (by decide) (by rw [show Tryz.f16.ntmps = 25 by kernel_rfl]; exact Nat.le_of_ble_eq_true rfl) (by kernel_rfl) ?_
  intro hσ hids
  rw [show comp Tryz.prog { own := [], ghosts := [] } (Tryz.f16.body.getD .skip) = c_Or by kernel_rfl, show Tryz.f16.ntmps = 25 by kernel_rfl]
  unfold c_Or
  simp only [go_sem, Int.reduceToNat, Int.reduceLE, Int.reduceLT, Nat.reduceBEq, Nat.reduceLT, Nat.reduceAdd, Nat.reduceLeDiff, encTask]
  refine ACalls.is (ACalls.wk (fine07_spec t [f, g] .unk _ ht (by simp) (by intro x hx; simp at hx; rcases hx with rfl | rfl; exact hf; exact hg)) (.cons (.refl _) (WkL.one (wk_two _ _ _ _ _)))) ?_
  by_cases h1 : fineE t [f, g] = 0
  · obtain ⟨hn, _, l1, l2, v1, v2⟩ := fine_two h1
    rw [h1]
    simp only [go_sem, Int.reduceToNat, Int.reduceLE, Int.reduceLT, Nat.reduceBEq, Nat.reduceLT, Nat.reduceAdd, Nat.reduceLeDiff]
    refine (cloneT_spec f _ _ (by omega)).mono ?_
    rintro _ _ ⟨rfl, rfl⟩
    have hbig : bigLen (f.length + g.length) 24 := big_ok (by omega) (by omega)
    have hall : ∀ y ∈ g, (encC y).length = 1 ∧ (encC y).all AV.one = true := fun y _ => ⟨rfl, rfl⟩
    simp only [go_sem, Int.reduceToNat, Int.reduceLE, Int.reduceLT, Nat.reduceBEq, Nat.reduceLT, Nat.reduceAdd, Nat.reduceLeDiff, hbig, ← List.map_append]
    refine ⟨hall, ?_⟩
    refine (reduced_specF (f ++ g) _ _ ((append_V v1 v2).ok (by omega) (by rw [List.length_append]; omega))).mono ?_
    rintro _ _ ⟨rfl, rfl⟩
    generalize reducedL (f ++ g) = h
    simp only [go_sem, Int.reduceToNat, Int.reduceLE, Int.reduceLT, Nat.reduceBEq, Nat.reduceLT, Nat.reduceAdd, Nat.reduceLeDiff]
    refine (told_spec (h.map encCf) _ _ _).is ?_
    by_cases h4 : h.length ≤ 400
    · rw [if_pos ⟨rfl, by rw [List.length_map]; exact h4⟩]
      simp only [go_sem, Int.reduceToNat, Int.reduceLE, Int.reduceLT, Nat.reduceBEq, Nat.reduceLT, Nat.reduceAdd, Nat.reduceLeDiff, upTo, h4]
      first | exact rtl (.slice .fresh (h.map encCf)) (.int .i64 0) ⟨rfl, rfl⟩ | exact rtl0 (.slice .fresh (h.map encCf)) (.int .i64 0) ⟨rfl, rfl⟩
    · rw [if_neg (fun q => h4 (by simpa using q.2))]
      simp only [go_sem, Int.reduceToNat, Int.reduceLE, Int.reduceLT, Nat.reduceBEq, Nat.reduceLT, Nat.reduceAdd, Nat.reduceLeDiff, upTo, h4]
      first | exact rtl (.slice .nil []) (.int .i64 2) ⟨rfl, rfl⟩ | exact rtl0 (.slice .nil []) (.int .i64 2) ⟨rfl, rfl⟩
  · have h1' : (fineE t [f, g] != 0) = true := by simpa using h1
    simp only [go_sem, Int.reduceToNat, Int.reduceLE, Int.reduceLT, Nat.reduceBEq, Nat.reduceLT, Nat.reduceAdd, Nat.reduceLeDiff, h1']
    first | exact rtl (.slice .nil []) (.int .i64 (fineE t [f, g])) ⟨(retFf_ne h1 _).symm, rfl⟩ | exact rtl0 (.slice .nil []) (.int .i64 (fineE t [f, g])) ⟨(retFf_ne h1 _).symm, rfl⟩
def c_Not : CCode := .seq (.ops [⟨some 2, .box (.tmp 0), none, []⟩, ⟨some 4, .move (.lit (.slice .nil [])), none, []⟩, ⟨some 5, .move (.lit (.int .i64 0)), none, []⟩]) (.seq (.seq (.ops [⟨some 7, .load (some 4) (.tmp 2), none, []⟩, ⟨some 8, .move (.tmp 1), none, []⟩, ⟨some 9, .bslice 1 [.tmp 8] false, none, []⟩, ⟨some 10, .call (.lit (.func 28 [])) [.tmp 7, .tmp 9], none, []⟩, ⟨some 6, .move (.tmp 10), none, []⟩]) (.seq (.ops [⟨some 11, .move (.tmp 6), none, []⟩, ⟨some 12, .bin .neq .none (.tmp 11) (.lit (.int .i64 0)), none, []⟩]) (.cond (.tmp 12) (.seq (.ops [⟨some 13, .move (.tmp 6), none, []⟩, ⟨some 4, .move (.lit (.slice .nil [])), none, []⟩, ⟨some 5, .move (.tmp 13), none, []⟩]) .ret) .skip))) (.seq (.ops [⟨some 14, .move (.tmp 1), none, []⟩, ⟨some 15, .call (.lit (.func 44 [])) [.tmp 14], none, []⟩, ⟨some 16, .extract (.tmp 15) 0, none, []⟩, ⟨some 17, .extract (.tmp 15) 1, none, []⟩, ⟨some 18, .call (.lit (.func 40 [])) [.tmp 16, .tmp 17], none, []⟩, ⟨some 19, .extract (.tmp 18) 0, none, []⟩, ⟨some 20, .extract (.tmp 18) 1, none, []⟩, ⟨some 4, .move (.tmp 19), none, []⟩, ⟨some 5, .move (.tmp 20), none, []⟩]) .ret))
set_option maxRecDepth 20000 in
theorem Not_specF (t : FTask) (f : List (List FLit)) (tok : Tok) (σ : Store) (ht : TB t) (hf : FB f) :
    ACalls Tryz.prog 19 [.agg (encTask t), .slice tok (f.map encC)] σ (isR (retFf (fineE t [f]) (negF f)) σ) := by
  refine ACalls.intro (rs := [(.tmp 4), (.tmp 5)]) (by kernel_rfl) { own := [], ghosts := [] } Tryz.func19 (c := Tryz.f19.body.getD .skip) (by kernel_rfl) (by decide) (by rw [show Tryz.f19.ntmps = 21 by kernel_rfl]; exact Nat.le_of_ble_eq_true rfl) (by kernel_rfl) ?_
  intro hσ hids
  rw [show comp Tryz.prog { own := [], ghosts := [] } (Tryz.f19.body.getD .skip) = c_Not by kernel_rfl, show Tryz.f19.ntmps = 21 by kernel_rfl]
  unfold c_Not
  simp only [go_sem, Int.reduceToNat, Int.reduceLE, Int.reduceLT, Nat.reduceBEq, Nat.reduceLT, Nat.reduceAdd, Nat.reduceLeDiff, encTask]
  refine ACalls.is (ACalls.wk (fine07_spec t [f] .unk _ ht (by simp) (by intro x hx; simp at hx; subst hx; exact hf)) (.cons (.refl _) (WkL.one (wk_one _ _ _)))) ?_
  by_cases h1 : fineE t [f] = 0
  · obtain ⟨hn, _, l1, v1⟩ := fine_one h1
    rw [h1]
    simp only [go_sem, Int.reduceToNat, Int.reduceLE, Int.reduceLT, Nat.reduceBEq, Nat.reduceLT, Nat.reduceAdd, Nat.reduceLeDiff]
    refine (negated_specF t.facts.length (by omega) f _ _ (by omega) v1).mono ?_
    cases hb : negF f with
    | none =>
      rintro _ _ ⟨rfl, rfl⟩
      simp only [go_sem, Int.reduceToNat, Int.reduceLE, Int.reduceLT, Nat.reduceBEq, Nat.reduceLT, Nat.reduceAdd, Nat.reduceLeDiff]
      refine (told_spec [] .nil false _).is ?_
      rw [if_neg (by simp)]
      simp only [go_sem, Int.reduceToNat, Int.reduceLE, Int.reduceLT, Nat.reduceBEq, Nat.reduceLT, Nat.reduceAdd, Nat.reduceLeDiff]
      first | exact rtl (.slice .nil []) (.int .i64 2) ⟨rfl, rfl⟩ | exact rtl0 (.slice .nil []) (.int .i64 2) ⟨rfl, rfl⟩
    | some h =>
      rintro _ _ ⟨rfl, rfl⟩
      have h4 := negF_len hb
      simp only [go_sem, Int.reduceToNat, Int.reduceLE, Int.reduceLT, Nat.reduceBEq, Nat.reduceLT, Nat.reduceAdd, Nat.reduceLeDiff]
      refine (told_spec (h.map encCf) _ _ _).is ?_
      rw [if_pos ⟨rfl, by rw [List.length_map]; exact h4⟩]
      simp only [go_sem, Int.reduceToNat, Int.reduceLE, Int.reduceLT, Nat.reduceBEq, Nat.reduceLT, Nat.reduceAdd, Nat.reduceLeDiff]
      first | exact rtl (.slice .fresh (h.map encCf)) (.int .i64 0) ⟨rfl, rfl⟩ | exact rtl0 (.slice .fresh (h.map encCf)) (.int .i64 0) ⟨rfl, rfl⟩
  · have h1' : (fineE t [f] != 0) = true := by simpa using h1
    simp only [go_sem, Int.reduceToNat, Int.reduceLE, Int.reduceLT, Nat.reduceBEq, Nat.reduceLT, Nat.reduceAdd, Nat.reduceLeDiff, h1']
    first | exact rtl (.slice .nil []) (.int .i64 (fineE t [f])) ⟨(retFf_ne h1 _).symm, rfl⟩ | exact rtl0 (.slice .nil []) (.int .i64 (fineE t [f])) ⟨(retFf_ne h1 _).symm, rfl⟩
theorem Or_spec (t : FTask) (f g : List (List FLit)) (tok tok' : Tok) (σ : Store) (ht : TB t) (hf : FB f) (hg : FB g) :
    ACalls Tryz.prog 16 [.agg (encTask t), .slice tok (f.map encC), .slice tok' (g.map encC)] σ (isR (retF (fineE t [f, g]) (upTo (some (reducedL (f ++ g))))) σ) := (Or_specF t f g tok tok' σ ht hf hg).wkR (retFf_wk _ _)
theorem Not_spec (t : FTask) (f : List (List FLit)) (tok : Tok) (σ : Store) (ht : TB t) (hf : FB f) :
    ACalls Tryz.prog 19 [.agg (encTask t), .slice tok (f.map encC)] σ (isR (retF (fineE t [f]) (negF f)) σ) := (Not_specF t f tok σ ht hf).wkR (retFf_wk _ _)
end Go.Proofs.YtbnhijapbnfohaaGreat
namespace Go.Proofs.YtbnhijapbnfohaaGreat
open Go.Ahl
theorem dec_cons {α : Type} [DecidableEq α] (x y : α) (l m : List α) : decide (x :: l = y :: m) = (decide (x = y) && decide (l = m)) := by
  by_cases h1 : x = y <;> by_cases h2 : l = m <;> simp [h1, h2]
def d_sameLits_0 : List COp := [⟨some 16, .move (.tmp 0), none, []⟩, ⟨some 17, .move (.tmp 5), none, []⟩, ⟨some 18, .iaddr 2 (.tmp 16) (.tmp 17), none, [0, 1]⟩, ⟨some 19, .load (some 2) (.tmp 18), none, [2]⟩, ⟨some 20, .move (.tmp 1), none, []⟩, ⟨some 21, .move (.tmp 5), none, []⟩, ⟨some 22, .iaddr 2 (.tmp 20) (.tmp 21), none, [4, 5]⟩, ⟨some 23, .load (some 2) (.tmp 22), none, [6]⟩, ⟨some 24, .bin .neq (.flat [1, 0]) (.tmp 19) (.tmp 23), none, [3, 7]⟩]
theorem dr_sameLits_0 (P : Program) (nt n0 : Nat) (Q : Post) (s : Slots) (σ : Store) : wpc P nt n0 (.draw d_sameLits_0) Q s σ = aOpsD P nt [⟨some 16, .move (.tmp 0), none, []⟩, ⟨some 17, .move (.tmp 5), none, []⟩, ⟨some 18, .iaddr 2 (.tmp 16) (.tmp 17), none, [0, 1]⟩, ⟨some 19, .load (some 2) (.tmp 18), none, [2]⟩, ⟨some 20, .move (.tmp 1), none, []⟩, ⟨some 21, .move (.tmp 5), none, []⟩, ⟨some 22, .iaddr 2 (.tmp 20) (.tmp 21), none, [4, 5]⟩, ⟨some 23, .load (some 2) (.tmp 22), none, [6]⟩, ⟨some 24, .bin .neq (.flat [1, 0]) (.tmp 19) (.tmp 23), none, [3, 7]⟩] (Q .normal) s σ := wpc_draw _ (by decide)
def c_sameLits : CCode := .seq (.ops [⟨some 4, .move (.lit (.bool false)), none, []⟩]) (.seq (.seq (.ops [⟨some 6, .move (.tmp 0), none, []⟩, ⟨some 7, .blen 1 (.tmp 6), none, []⟩, ⟨some 8, .move (.tmp 1), none, []⟩, ⟨some 9, .blen 1 (.tmp 8), none, []⟩, ⟨some 10, .bin .neq .none (.tmp 7) (.tmp 9), none, []⟩]) (.cond (.tmp 10) (.seq (.ops [⟨some 4, .move (.lit (.bool false)), none, []⟩]) .ret) .skip)) (.seq (.seq (.ops [⟨some 11, .move (.tmp 0), none, []⟩, ⟨some 12, .blen 1 (.tmp 11), none, []⟩, ⟨some 13, .move (.lit (.int .i64 0)), none, []⟩]) (.block 0 (.loop (.seq (.ops [⟨some 14, .bin .lss .none (.tmp 13) (.tmp 12), none, []⟩]) (.seq (.cond (.tmp 14) .skip (.exit 0)) (.seq (.block 1 (.seq (.ops [⟨some 15, .move (.tmp 13), none, []⟩, ⟨some 5, .move (.tmp 15), none, []⟩]) (.seq (.draw d_sameLits_0) (.cond (.tmp 24) (.seq (.ops [⟨some 4, .move (.lit (.bool false)), none, []⟩]) .ret) .skip)))) (.ops [⟨some 25, .bin .add .none (.tmp 13) (.lit (.int .i64 1)), none, []⟩, ⟨some 13, .move (.tmp 25), none, []⟩]))))))) (.seq (.ops [⟨some 4, .move (.lit (.bool true)), none, []⟩]) .ret)))
set_option maxRecDepth 20000 in
theorem sameLits_spec (l m : List FLit) (tok tok' : Tok) (σ : Store) (hl : l.length ≤ 140737488355328) (hm : m.length ≤ 140737488355328) :
    ACalls Tryz.prog 36 [.slice tok (l.map encLit), .slice tok' (m.map encLit)] σ (isR (.bool (decide (l = m))) σ) := by
  refine ACalls.intro (rs := [(.tmp 4)]) (by kernel_rfl) { own := [], ghosts := [] } Tryz.func36 (c := Tryz.f36.body.getD .skip) (by kernel_rfl) (by decide) (by rw [show Tryz.f36.ntmps = 26 by kernel_rfl]; exact Nat.le_of_ble_eq_true rfl) (by kernel_rfl) ?_
  intro hσ hids
  rw [show comp Tryz.prog { own := [], ghosts := [] } (Tryz.f36.body.getD .skip) = c_sameLits by kernel_rfl, show Tryz.f36.ntmps = 26 by kernel_rfl]
  unfold c_sameLits
  have hil : Ids σ.length (.slice tok (l.map encLit)) := hids _ (by simp)
  have him : Ids σ.length (.slice tok' (m.map encLit)) := hids _ (by simp)
  by_cases hlen : l.length = m.length
  · have h' : ((l.length : Int) != m.length) = false := by rw [hlen]; exact bne_self_eq_false _
    simp only [go_sem, Int.reduceToNat, Int.reduceLE, Int.reduceLT, Nat.reduceBEq, Nat.reduceLT, Nat.reduceAdd, Nat.reduceLeDiff, dr_sameLits_0, h']
    refine wpc_while (fun (i : Nat) => [(0, .slice tok (l.map encLit)), (1, .slice tok' (m.map encLit)), (12, .int .i64 l.length), (13, .int .i64 (i : Nat))]) (fun _ => σ) (fun i => i ≤ l.length ∧ decide (l = m) = decide (l.drop i = m.drop i)) (fun i => l.length - i) 0 ⟨Nat.zero_le _, rfl⟩ (by (try dsimp only); first | exact ghk | exact ghk0) ?_
    rintro i ⟨hi, hv⟩ K hK hE hR
    by_cases h : i < l.length
    · obtain ⟨x, hx⟩ := get_ex h; have hlt : ((i : Int) < (l.length : Int)) := (by omega); have hw : IntKind.i64.wrap ((i : Int) + 1) = ((i + 1 : Nat) : Int) := (by rw [wrap_ok (by omega)]; omega)
      obtain ⟨y, hy⟩ : ∃ y, m[i]? = some y := get_ex (by omega)
      rw [drop_cons hx, drop_cons hy, dec_cons] at hv
      have hf := flat_lit x y
      simp only [encLit] at hf
      by_cases h1 : x = y
      · rw [decide_eq_true h1] at hf
        simp only [go_sem, Int.reduceToNat, Int.reduceLE, Int.reduceLT, Nat.reduceBEq, Nat.reduceLT, Nat.reduceAdd, Nat.reduceLeDiff, dr_sameLits_0, hlt, hx, hy, encLit, hf]
        rw [decide_eq_true h1, Bool.true_and] at hv
        refine hK _ _ (i + 1) (⟨by omega, hv⟩) (by first | omega | (simp only []; omega) | (simp; omega)) ?_; (try dsimp only); (try simp only [ hw]); first | exact ghk | exact ghk0
      · rw [decide_eq_false h1] at hf
        simp only [go_sem, Int.reduceToNat, Int.reduceLE, Int.reduceLT, Nat.reduceBEq, Nat.reduceLT, Nat.reduceAdd, Nat.reduceLeDiff, dr_sameLits_0, hlt, hx, hy, encLit, hf, hR]
        rw [decide_eq_false h1, Bool.false_and] at hv
        first | exact rtk (.bool false) ⟨by rw [hv], rfl⟩ | exact rtk0 (.bool false) ⟨by rw [hv], rfl⟩
    · have hlt : ¬ ((i : Int) < (l.length : Int)) := by omega
      rw [drop_len h, drop_len (by omega : ¬ i < m.length)] at hv
      simp only [go_sem, Int.reduceToNat, Int.reduceLE, Int.reduceLT, Nat.reduceBEq, Nat.reduceLT, Nat.reduceAdd, Nat.reduceLeDiff, dr_sameLits_0, hlt, hE]
      first | exact rtk (.bool true) ⟨by rw [hv]; rfl, rfl⟩ | exact rtk0 (.bool true) ⟨by rw [hv]; rfl, rfl⟩
  · have h' : ((l.length : Int) != m.length) = true := by simp; omega
    simp only [go_sem, Int.reduceToNat, Int.reduceLE, Int.reduceLT, Nat.reduceBEq, Nat.reduceLT, Nat.reduceAdd, Nat.reduceLeDiff, dr_sameLits_0, h']
    first | exact rtk (.bool false) ⟨by rw [decide_eq_false (fun e => hlen (by rw [e]))], rfl⟩ | exact rtk0 (.bool false) ⟨by rw [decide_eq_false (fun e => hlen (by rw [e]))], rfl⟩
def d_same07_0 : List COp := [⟨some 16, .move (.tmp 0), none, []⟩, ⟨some 17, .move (.tmp 5), none, []⟩, ⟨some 18, .iaddr 1 (.tmp 16) (.tmp 17), none, [0, 1]⟩, ⟨some 19, .load none (.tmp 18), none, [2]⟩, ⟨some 20, .move (.tmp 1), none, []⟩, ⟨some 21, .move (.tmp 5), none, []⟩, ⟨some 22, .iaddr 1 (.tmp 20) (.tmp 21), none, [4, 5]⟩, ⟨some 23, .load none (.tmp 22), none, [6]⟩, ⟨some 24, .call (.lit (.func 36 [])) [.tmp 19, .tmp 23], none, [3, 7]⟩, ⟨some 25, .un .not (.tmp 24), none, [8]⟩]
theorem dr_same07_0 (P : Program) (nt n0 : Nat) (Q : Post) (s : Slots) (σ : Store) : wpc P nt n0 (.draw d_same07_0) Q s σ = aOpsD P nt [⟨some 16, .move (.tmp 0), none, []⟩, ⟨some 17, .move (.tmp 5), none, []⟩, ⟨some 18, .iaddr 1 (.tmp 16) (.tmp 17), none, [0, 1]⟩, ⟨some 19, .load none (.tmp 18), none, [2]⟩, ⟨some 20, .move (.tmp 1), none, []⟩, ⟨some 21, .move (.tmp 5), none, []⟩, ⟨some 22, .iaddr 1 (.tmp 20) (.tmp 21), none, [4, 5]⟩, ⟨some 23, .load none (.tmp 22), none, [6]⟩, ⟨some 24, .call (.lit (.func 36 [])) [.tmp 19, .tmp 23], none, [3, 7]⟩, ⟨some 25, .un .not (.tmp 24), none, [8]⟩] (Q .normal) s σ := wpc_draw _ (by decide)
def c_same07 : CCode := .seq (.ops [⟨some 4, .move (.lit (.bool false)), none, []⟩]) (.seq (.seq (.ops [⟨some 6, .move (.tmp 0), none, []⟩, ⟨some 7, .blen 1 (.tmp 6), none, []⟩, ⟨some 8, .move (.tmp 1), none, []⟩, ⟨some 9, .blen 1 (.tmp 8), none, []⟩, ⟨some 10, .bin .neq .none (.tmp 7) (.tmp 9), none, []⟩]) (.cond (.tmp 10) (.seq (.ops [⟨some 4, .move (.lit (.bool false)), none, []⟩]) .ret) .skip)) (.seq (.seq (.ops [⟨some 11, .move (.tmp 0), none, []⟩, ⟨some 12, .blen 1 (.tmp 11), none, []⟩, ⟨some 13, .move (.lit (.int .i64 0)), none, []⟩]) (.block 0 (.loop (.seq (.ops [⟨some 14, .bin .lss .none (.tmp 13) (.tmp 12), none, []⟩]) (.seq (.cond (.tmp 14) .skip (.exit 0)) (.seq (.block 1 (.seq (.ops [⟨some 15, .move (.tmp 13), none, []⟩, ⟨some 5, .move (.tmp 15), none, []⟩]) (.seq (.draw d_same07_0) (.cond (.tmp 25) (.seq (.ops [⟨some 4, .move (.lit (.bool false)), none, []⟩]) .ret) .skip)))) (.ops [⟨some 26, .bin .add .none (.tmp 13) (.lit (.int .i64 1)), none, []⟩, ⟨some 13, .move (.tmp 26), none, []⟩]))))))) (.seq (.ops [⟨some 4, .move (.lit (.bool true)), none, []⟩]) .ret)))
set_option maxRecDepth 20000 in
theorem same07_spec (l m : List (List FLit)) (tok tok' : Tok) (σ : Store) (hl : FB l) (hm : FB m) :
    ACalls Tryz.prog 12 [.slice tok (l.map encC), .slice tok' (m.map encC)] σ (isR (.bool (decide (l = m))) σ) := by
  refine ACalls.intro (rs := [(.tmp 4)]) (by kernel_rfl) { own := [], ghosts := [] } Tryz.func12 (c := Tryz.f12.body.getD .skip) (by kernel_rfl) (by decide) (by rw [show Tryz.f12.ntmps = 27 by kernel_rfl]; exact Nat.le_of_ble_eq_true rfl) (by kernel_rfl) ?_
  intro hσ hids
  rw [show comp Tryz.prog { own := [], ghosts := [] } (Tryz.f12.body.getD .skip) = c_same07 by kernel_rfl, show Tryz.f12.ntmps = 27 by kernel_rfl]
  unfold c_same07
  have hl1 := hl.1
  have hil : Ids σ.length (.slice tok (l.map encC)) := hids _ (by simp)
  have him : Ids σ.length (.slice tok' (m.map encC)) := hids _ (by simp)
  by_cases hlen : l.length = m.length
  · have h' : ((l.length : Int) != m.length) = false := by rw [hlen]; exact bne_self_eq_false _
    simp only [go_sem, Int.reduceToNat, Int.reduceLE, Int.reduceLT, Nat.reduceBEq, Nat.reduceLT, Nat.reduceAdd, Nat.reduceLeDiff, dr_same07_0, h']
    refine wpc_while (fun (i : Nat) => [(0, .slice tok (l.map encC)), (1, .slice tok' (m.map encC)), (12, .int .i64 l.length), (13, .int .i64 (i : Nat))]) (fun _ => σ) (fun i => i ≤ l.length ∧ decide (l = m) = decide (l.drop i = m.drop i)) (fun i => l.length - i) 0 ⟨Nat.zero_le _, rfl⟩ (by (try dsimp only); first | exact ghk | exact ghk0) ?_
    rintro i ⟨hi, hv⟩ K hK hE hR
    by_cases h : i < l.length
    · obtain ⟨x, hx⟩ := get_ex h; have hlt : ((i : Int) < (l.length : Int)) := (by omega); have hw : IntKind.i64.wrap ((i : Int) + 1) = ((i + 1 : Nat) : Int) := (by rw [wrap_ok (by omega)]; omega)
      obtain ⟨y, hy⟩ : ∃ y, m[i]? = some y := get_ex (by omega)
      rw [drop_cons hx, drop_cons hy, dec_cons] at hv
      simp only [go_sem, Int.reduceToNat, Int.reduceLE, Int.reduceLT, Nat.reduceBEq, Nat.reduceLT, Nat.reduceAdd, Nat.reduceLeDiff, dr_same07_0, hlt, hx, hy, encC]
      refine ⟨_, sameLits_spec x y .unk .unk _ (hl.2 x (List.mem_of_getElem? hx)) (hm.2 y (List.mem_of_getElem? hy)), ?_⟩
      cases h1 : decide (x = y)
      · rw [h1, Bool.false_and] at hv
        simp only [go_sem, Int.reduceToNat, Int.reduceLE, Int.reduceLT, Nat.reduceBEq, Nat.reduceLT, Nat.reduceAdd, Nat.reduceLeDiff, dr_same07_0, hR]
        first | exact rtk (.bool false) ⟨by rw [hv], rfl⟩ | exact rtk0 (.bool false) ⟨by rw [hv], rfl⟩
      · rw [h1, Bool.true_and] at hv
        simp only [go_sem, Int.reduceToNat, Int.reduceLE, Int.reduceLT, Nat.reduceBEq, Nat.reduceLT, Nat.reduceAdd, Nat.reduceLeDiff, dr_same07_0]
        refine hK _ _ (i + 1) (⟨by omega, hv⟩) (by first | omega | (simp only []; omega) | (simp; omega)) ?_; (try dsimp only); (try simp only [ hw]); first | exact ghk | exact ghk0
    · have hlt : ¬ ((i : Int) < (l.length : Int)) := by omega
      rw [drop_len h, drop_len (by omega : ¬ i < m.length)] at hv
      simp only [go_sem, Int.reduceToNat, Int.reduceLE, Int.reduceLT, Nat.reduceBEq, Nat.reduceLT, Nat.reduceAdd, Nat.reduceLeDiff, dr_same07_0, hlt, hE]
      first | exact rtk (.bool true) ⟨by rw [hv]; rfl, rfl⟩ | exact rtk0 (.bool true) ⟨by rw [hv]; rfl, rfl⟩
  · have h' : ((l.length : Int) != m.length) = true := by simp; omega
    simp only [go_sem, Int.reduceToNat, Int.reduceLE, Int.reduceLT, Nat.reduceBEq, Nat.reduceLT, Nat.reduceAdd, Nat.reduceLeDiff, dr_same07_0, h']
    first | exact rtk (.bool false) ⟨by rw [decide_eq_false (fun e => hlen (by rw [e]))], rfl⟩ | exact rtk0 (.bool false) ⟨by rw [decide_eq_false (fun e => hlen (by rw [e]))], rfl⟩
end Go.Proofs.YtbnhijapbnfohaaGreat
namespace Go.Proofs.YtbnhijapbnfohaaGreat
open Go.Ahl
/-! ### Assignments with open facts: 0 open, 1 true, -1 false -/
def valAt (w : List Int) (i : Int) : Int := (w[i.toNat]?).getD 0
def litV (w : List Int) (x : FLit) : Int := if x.neg then -valAt w x.fact else valAt w x.fact
def Tri (w : List Int) : Prop := ∀ y ∈ w, y = -1 ∨ y = 0 ∨ y = 1
def opens (w : List Int) : Nat := (w.filter (fun y => y == 0)).length
/-- Is the fact true in every assignment a that completes w? -/
def Comp (w : List Int) (a : Int → Bool) : Prop := ∀ (i : Nat) y, w[i]? = some y → (y = 1 → a i = true) ∧ (y = -1 → a i = false)
def litT (a : Int → Bool) (x : FLit) : Bool := a x.fact != x.neg
def termT (a : Int → Bool) (l : List FLit) : Bool := l.all (litT a)
/-- w' is w with some open facts set. -/
def ExtW (w w' : List Int) : Prop := w'.length = w.length ∧ ∀ (i : Nat) y, w[i]? = some y → y ≠ 0 → w'[i]? = some y
/-- The value that makes a literal true. -/
def sgn (x : FLit) : Int := if x.neg then -1 else 1
def inR (n : Nat) (x : FLit) : Prop := 0 ≤ x.fact ∧ x.fact < n
theorem ExtW.refl (w : List Int) : ExtW w w := ⟨rfl, fun _ _ h _ => h⟩
theorem ExtW.trans {a b c : List Int} (h : ExtW a b) (k : ExtW b c) : ExtW a c := ⟨k.1.trans h.1, fun i y e n => k.2 i y (h.2 i y e n) n⟩
theorem valAt_get {w : List Int} {x : FLit} (h : inR w.length x) : w[x.fact.toNat]? = some (valAt w x.fact) := by
  unfold valAt
  have : x.fact.toNat < w.length := by have := h.1; have := h.2; omega
  rw [List.getElem?_eq_getElem this]; rfl
theorem valAt_tri {w : List Int} (hw : Tri w) (i : Int) : valAt w i = -1 ∨ valAt w i = 0 ∨ valAt w i = 1 := by
  unfold valAt
  cases h : w[i.toNat]? with
  | none => exact .inr (.inl rfl)
  | some y => exact hw y (List.mem_of_getElem? h)
theorem litV_tri {w : List Int} (hw : Tri w) (x : FLit) : litV w x = -1 ∨ litV w x = 0 ∨ litV w x = 1 := by
  unfold litV
  rcases valAt_tri hw x.fact with h | h | h <;> rw [h] <;> split <;> simp
theorem sgn_ne (x : FLit) : sgn x = 1 ∨ sgn x = -1 := by unfold sgn; split <;> simp
theorem litV_set {w : List Int} {x : FLit} (h : inR w.length x) (s : Int) : litV (w.set x.fact.toNat s) x = if x.neg then -s else s := by
  have h2 : x.fact.toNat < w.length := by have := h.1; have := h.2; omega
  unfold litV valAt
  rw [List.getElem?_set_self h2]; rfl
theorem tri_set {w : List Int} (hw : Tri w) (i : Nat) {s : Int} (hs : s = -1 ∨ s = 0 ∨ s = 1) : Tri (w.set i s) := by
  intro y hy
  rcases List.mem_or_eq_of_mem_set hy with h | h
  · exact hw y h
  · subst h; exact hs
theorem opens_set {w : List Int} {i : Nat} (h : w[i]? = some 0) {s : Int} (hs : s ≠ 0) : opens (w.set i s) + 1 = opens w := by
  induction w generalizing i with
  | nil => simp at h
  | cons y w ih =>
    cases i with
    | zero =>
      simp at h; subst h
      have hs' : (s == 0) = false := by simpa using hs
      simp [opens, hs']
    | succ i =>
      simp at h
      have := ih h
      simp only [opens, List.set_cons_succ, List.filter_cons] at this ⊢
      split <;> (try simp only [List.length_cons]) <;> omega
theorem ext_set {w : List Int} {i : Nat} (h : w[i]? = some 0) (s : Int) : ExtW w (w.set i s) := by
  refine ⟨by simp, fun j y e n => ?_⟩
  by_cases hj : i = j
  · subst hj; rw [h] at e; injection e with e; exact absurd e.symm n
  · rw [List.getElem?_set_ne hj]; exact e
theorem comp_set {w : List Int} {a : Int → Bool} {x : FLit} (hx : inR w.length x) (h : Comp w a) (ht : litT a x = true) : Comp (w.set x.fact.toNat (sgn x)) a := by
  intro i y e
  rcases Go.Ahl.get_set e with ⟨rfl, rfl⟩ | ⟨_, e⟩
  · have h3 : ((x.fact.toNat : Nat) : Int) = x.fact := by have := hx.1; omega
    rw [h3]
    unfold litT at ht
    unfold sgn
    cases hn : x.neg <;> rw [hn] at ht <;> simp at ht ⊢ <;> exact ht
  · exact h i y e
theorem comp_neg {w : List Int} {a : Int → Bool} {x : FLit} (hx : inR w.length x) (h : Comp w a) (ht : litT a x = false) : Comp (w.set x.fact.toNat (-sgn x)) a := by
  intro i y e
  rcases Go.Ahl.get_set e with ⟨rfl, rfl⟩ | ⟨_, e⟩
  · have h3 : ((x.fact.toNat : Nat) : Int) = x.fact := by have := hx.1; omega
    rw [h3]
    unfold litT at ht
    unfold sgn
    cases hn : x.neg <;> rw [hn] at ht <;> simp at ht ⊢ <;> exact ht
  · exact h i y e
theorem comp_lit {w : List Int} {a : Int → Bool} {x : FLit} (hx : inR w.length x) (h : Comp w a) : (litV w x = 1 → litT a x = true) ∧ (litV w x = -1 → litT a x = false) := by
  have h3 : ((x.fact.toNat : Nat) : Int) = x.fact := by have := hx.1; omega
  have h4 := h _ _ (valAt_get hx)
  rw [h3] at h4
  unfold litV litT
  cases hn : x.neg
  · simp only [Bool.false_eq_true, if_false, Bool.bne_false]; exact h4
  · simp only [if_true, Bool.bne_true, Bool.not_eq_true', Bool.not_eq_false']
    exact ⟨fun e => h4.2 (by omega), fun e => h4.1 (by omega)⟩
theorem opens_le (w : List Int) : opens w ≤ w.length := List.length_filter_le _ _
/-- Is a term not false yet? -/
def liveT (w : List Int) (l : List FLit) : Bool := !(l.any fun x => decide (litV w x < 0))
/-- What a search comes back with. -/
structure SPost (g : List (List FLit)) (w : List Int) (left : Int) (b : Bool) (w' : List Int) (left' : Int) : Prop where
  tri : Tri w'
  ext : ExtW w w'
  lo : left - (2 ^ opens w : Nat) ≤ left'
  hi : left' ≤ left
  yes : b = true → ∀ l ∈ g, ∃ x ∈ l, litV w' x < 0
  no : b = false → w' = w ∧ ∀ a, Comp w a → ∃ l ∈ g, termT a l = true
theorem idxFrom_some {α : Type} (p : α → Bool) : ∀ (l : List α) (k : Int), 0 ≤ k → (idxFrom p k l = -1 ∧ ∀ x ∈ l, p x = false) ∨ ∃ i : Nat, idxFrom p k l = k + i ∧ ∃ x, l[i]? = some x ∧ p x = true
  | [], k, h => .inl ⟨rfl, by simp⟩
  | x :: l, k, h => by
    rw [idxFrom]
    cases hx : p x
    · rcases idxFrom_some p l (k + 1) (by omega) with ⟨h1, h2⟩ | ⟨i, h1, y, h2, h3⟩
      · exact .inl ⟨by simpa using h1, fun y hy => by rcases List.mem_cons.1 hy with rfl | hy; exact hx; exact h2 y hy⟩
      · exact .inr ⟨i + 1, by simp only [Bool.false_eq_true, if_false, h1]; omega, y, by simpa using h2, h3⟩
    · exact .inr ⟨0, by simp, x, by simp, hx⟩
/-- Where the loop over the literals of a term stands: j are through, those of 'set' have been made true. -/
structure SLoop (g : List (List FLit)) (l : List FLit) (w0 : List Int) (left0 : Int) (j : Nat) (set : List Int) (w : List Int) (left : Int) : Prop where
  jl : j ≤ l.length
  tri : Tri w
  ext : ExtW w0 w
  ops : opens w + set.length = opens w0
  lo : left0 - 1 - (2 ^ opens w0 : Nat) + (2 ^ opens w : Nat) ≤ left
  hi : left ≤ left0
  old : ∀ f ∈ set, 0 ≤ f ∧ f < w0.length ∧ w0[f.toNat]? = some 0
  back : ∀ (i : Nat) y, w[i]? = some y → (∀ f ∈ set, f.toNat ≠ i) → w0[i]? = some y
  rest : ∀ x ∈ l.drop j, ∀ f ∈ set, f ≠ x.fact
  all : ∀ a, Comp w0 a → (∀ t ∈ g, termT a t = false) → Comp w a ∧ ∀ x ∈ l.take j, litT a x = true
/-- All facts of a list set to open again. -/
def resetW : List Int → List Int → List Int
  | w, [] => w
  | w, f :: r => resetW (w.set f.toNat 0) r
theorem resetW_len : ∀ (r w : List Int), (resetW w r).length = w.length
  | [], w => rfl
  | f :: r, w => by rw [resetW, resetW_len]; simp
theorem resetW_get : ∀ (r w : List Int) (i : Nat), i < w.length → (resetW w r)[i]? = if ∃ f ∈ r, f.toNat = i then some 0 else w[i]?
  | [], w, i, h => by simp [resetW]
  | f :: r, w, i, h => by
    rw [resetW, resetW_get r _ i (by simpa using h)]
    by_cases h1 : ∃ q ∈ r, q.toNat = i
    · rw [if_pos h1, if_pos]
      obtain ⟨q, hq, e⟩ := h1
      exact ⟨q, List.mem_cons_of_mem _ hq, e⟩
    · rw [if_neg h1]
      by_cases h2 : f.toNat = i
      · subst h2
        rw [if_pos ⟨f, List.mem_cons_self, rfl⟩, List.getElem?_set_self h]
      · rw [List.getElem?_set_ne h2, if_neg]
        rintro ⟨q, hq, e⟩
        rcases List.mem_cons.1 hq with rfl | hq
        · exact h2 e
        · exact h1 ⟨q, hq, e⟩
theorem SLoop.reset {g : List (List FLit)} {l : List FLit} {w0 : List Int} {left0 : Int} {j : Nat} {set w : List Int} {left : Int} (h : SLoop g l w0 left0 j set w left) : resetW w set = w0 := by
  apply List.ext_getElem?
  intro i
  by_cases hi : i < w.length
  · rw [resetW_get set w i hi]
    by_cases h1 : ∃ f ∈ set, f.toNat = i
    · rw [if_pos h1]
      obtain ⟨f, hf, rfl⟩ := h1
      exact (h.old f hf).2.2.symm
    · rw [if_neg h1]
      obtain ⟨y, hy⟩ : ∃ y, w[i]? = some y := get_ex hi
      rw [hy]
      exact (h.back i y hy (fun f hf e => h1 ⟨f, hf, e⟩)).symm
  · rw [List.getElem?_eq_none (by rw [resetW_len]; omega), List.getElem?_eq_none (by have := h.ext.1; omega)]
theorem SLoop.begin {g : List (List FLit)} {l : List FLit} {w : List Int} {left : Int} (ht : Tri w) : SLoop g l w left 0 [] w (left - 1) where
  jl := Nat.zero_le _
  tri := ht
  ext := .refl _
  ops := rfl
  lo := by omega
  hi := by omega
  old := by simp
  back := fun i y e _ => e
  rest := by simp
  all := fun a hc _ => ⟨hc, by simp⟩
theorem liveT_nn {w : List Int} {l : List FLit} (h : liveT w l = true) {x : FLit} (hx : x ∈ l) : 0 ≤ litV w x := by
  unfold liveT at h
  simp only [Bool.not_eq_true', List.any_eq_false, decide_eq_true_eq] at h
  have := h x hx; omega
/-- A literal that is not open is true already. -/
theorem SLoop.skip {g : List (List FLit)} {l : List FLit} {w0 : List Int} {left0 : Int} {j : Nat} {set w : List Int} {left : Int} (h : SLoop g l w0 left0 j set w left) {x : FLit} (hx : l[j]? = some x) (hr : inR w0.length x)
    (hl : liveT w0 l = true) (hv : litV w x ≠ 0) : SLoop g l w0 left0 (j + 1) set w left where
  jl := lt_of_get hx
  tri := h.tri
  ext := h.ext
  ops := h.ops
  lo := h.lo
  hi := h.hi
  old := h.old
  back := h.back
  rest := fun y hy => h.rest y (by rw [drop_cons hx]; exact List.mem_cons_of_mem _ hy)
  all := by
    intro a hc hg
    obtain ⟨h1, h2⟩ := h.all a hc hg
    refine ⟨h1, fun y hy => ?_⟩
    rw [take_succ' hx] at hy
    rcases List.mem_append.1 hy with hy | hy
    · exact h2 y hy
    · rw [List.mem_singleton] at hy; subst hy
      have hr' : inR w.length y := ⟨hr.1, by rw [h.ext.1]; exact hr.2⟩
      have hn := liveT_nn hl (List.mem_of_getElem? hx)
      have hno : ∀ f ∈ set, f.toNat ≠ y.fact.toNat := by
        intro f hf e
        have h3 := h.rest y (by rw [drop_cons hx]; exact List.mem_cons_self) f hf
        have h4 := (h.old f hf).1
        have := hr.1; omega
      have h5 := h.back _ _ (valAt_get hr') hno
      have h6 : valAt w0 y.fact = valAt w y.fact := by unfold valAt at h5 ⊢; rw [h5]; rfl
      have h7 : litV w0 y = litV w y := by unfold litV; rw [h6]
      rcases litV_tri h.tri y with h8 | h8 | h8
      · omega
      · exact absurd h8 hv
      · exact (comp_lit hr' h1).1 h8
/-- The literals of a condition have facts that rise. -/
theorem cond_apart {n : Int} : ∀ {l : List FLit} {p : Int}, condB n p l = true → (∀ x ∈ l, p < x.fact ∧ x.fact < n) ∧ ∀ (j : Nat) x, l[j]? = some x → ∀ y ∈ l.drop (j + 1), x.fact ≠ y.fact
  | [], p, h => ⟨by simp, by simp⟩
  | z :: l, p, h => by
    rw [condB, Bool.and_eq_true, Bool.and_eq_true, decide_eq_true_eq, decide_eq_true_eq] at h
    obtain ⟨⟨h1, h2⟩, h3⟩ := h
    obtain ⟨h4, h5⟩ := cond_apart h3
    refine ⟨fun x hx => ?_, fun j x hx y hy => ?_⟩
    · rcases List.mem_cons.1 hx with rfl | hx
      · exact ⟨h1, h2⟩
      · have := h4 x hx; omega
    · cases j with
      | zero => simp at hx hy; subst hx; have := h4 y hy; omega
      | succ j => simp at hx hy; exact h5 j x hx y hy
/-- An open literal was made false in vain: it is made true. -/
theorem SLoop.step {g : List (List FLit)} {l : List FLit} {w0 : List Int} {left0 : Int} {j : Nat} {set w : List Int} {left : Int} (h : SLoop g l w0 left0 j set w left) {x : FLit} (hx : l[j]? = some x) (hr : inR w0.length x)
    {n : Int} (hc : condB n (-1) l = true) (hv : litV w x = 0) {w' : List Int} {left' : Int} (hp : SPost g (w.set x.fact.toNat (-sgn x)) left false w' left') :
    SLoop g l w0 left0 (j + 1) (set ++ [x.fact]) (w'.set x.fact.toNat (sgn x)) left' := by
  have hr' : inR w.length x := ⟨hr.1, by rw [h.ext.1]; exact hr.2⟩
  have hk : x.fact.toNat < w.length := by have := hr'.1; have := hr'.2; omega
  have h0 : valAt w x.fact = 0 := by unfold litV at hv; split at hv <;> omega
  have hg0 : w[x.fact.toNat]? = some 0 := by rw [valAt_get hr', h0]
  have hs := sgn_ne x
  obtain ⟨rfl, hno⟩ := hp.no rfl
  rw [List.set_set]
  have ho1 := opens_set (s := -sgn x) hg0 (by omega)
  have ho2 := opens_set (s := sgn x) hg0 (by omega)
  have hpow : (2 : Nat) ^ opens w = 2 ^ opens (w.set x.fact.toNat (sgn x)) + 2 ^ opens (w.set x.fact.toNat (sgn x)) := by
    rw [← ho2, Nat.pow_succ]; omega
  have hpe : opens (w.set x.fact.toNat (-sgn x)) = opens (w.set x.fact.toNat (sgn x)) := by omega
  have hlo := hp.lo
  rw [hpe] at hlo
  refine ⟨lt_of_get hx, tri_set h.tri _ (by omega), h.ext.trans (ext_set hg0 _), by rw [List.length_append, List.length_singleton]; have := h.ops; omega, ?_, by have := hp.hi; have := h.hi; omega, ?_, ?_, ?_, ?_⟩
  · have := h.lo; omega
  · intro f hf
    rcases List.mem_append.1 hf with hf | hf
    · exact h.old f hf
    · rw [List.mem_singleton] at hf; subst hf
      refine ⟨hr.1, hr.2, ?_⟩
      refine h.back _ _ hg0 (fun f hf e => ?_)
      have h3 := h.rest x (by rw [drop_cons hx]; exact List.mem_cons_self) f hf
      have h4 := (h.old f hf).1
      have := hr.1; omega
  · intro i y e hf
    rcases Go.Ahl.get_set e with ⟨rfl, _⟩ | ⟨hne, e⟩
    · exact absurd rfl (hf x.fact (by simp))
    · exact h.back i y e (fun f hq => hf f (List.mem_append_left _ hq))
  · intro y hy f hf
    rcases List.mem_append.1 hf with hf | hf
    · exact h.rest y (by rw [drop_cons hx]; exact List.mem_cons_of_mem _ hy) f hf
    · rw [List.mem_singleton] at hf; subst hf
      exact (cond_apart hc).2 j x hx y hy
  · intro a hca hga
    obtain ⟨h1, h2⟩ := h.all a hca hga
    have htx : litT a x = true := by
      cases hq : litT a x with
      | true => rfl
      | false =>
        obtain ⟨t, ht, e⟩ := hno a (comp_neg hr' h1 hq)
        rw [hga t ht] at e; exact absurd e (by simp)
    refine ⟨comp_set hr' h1 htx, fun y hy => ?_⟩
    rw [take_succ' hx] at hy
    rcases List.mem_append.1 hy with hy | hy
    · exact h2 y hy
    · rw [List.mem_singleton] at hy; subst hy; exact htx
/-- What is asked ahead of a search within the loop. -/
theorem SLoop.ahead {g : List (List FLit)} {l : List FLit} {w0 : List Int} {left0 : Int} {j : Nat} {set w : List Int} {left : Int} (h : SLoop g l w0 left0 j set w left) {x : FLit} (hr : inR w0.length x) (hv : litV w x = 0) (h0 : ((2 ^ opens w0 : Nat) : Int) ≤ left0) :
    Tri (w.set x.fact.toNat (-sgn x)) ∧ opens (w.set x.fact.toNat (-sgn x)) < opens w0 ∧ ((2 ^ opens (w.set x.fact.toNat (-sgn x)) : Nat) : Int) ≤ left ∧ (w.set x.fact.toNat (-sgn x)).length = w0.length := by
  have hr' : inR w.length x := ⟨hr.1, by rw [h.ext.1]; exact hr.2⟩
  have hg0 : valAt w x.fact = 0 := by unfold litV at hv; split at hv <;> omega
  have hg0 : w[x.fact.toNat]? = some 0 := by rw [valAt_get hr', hg0]
  have hs := sgn_ne x
  have ho1 := opens_set (s := -sgn x) hg0 (by omega)
  have hpow : (2 : Nat) ^ opens w = 2 ^ opens (w.set x.fact.toNat (-sgn x)) + 2 ^ opens (w.set x.fact.toNat (-sgn x)) := by
    rw [← ho1, Nat.pow_succ]; omega
  have hpp : 0 < 2 ^ opens (w.set x.fact.toNat (-sgn x)) := Nat.pow_pos (by omega)
  refine ⟨tri_set h.tri _ (by omega), by have := h.ops; omega, by have := h.lo; omega, by rw [List.length_set]; exact h.ext.1⟩
/-- Found within the loop. -/
theorem SLoop.found {g : List (List FLit)} {l : List FLit} {w0 : List Int} {left0 : Int} {j : Nat} {set w : List Int} {left : Int} (h : SLoop g l w0 left0 j set w left) {x : FLit} (hr : inR w0.length x) (hv : litV w x = 0)
    {w' : List Int} {left' : Int} (hp : SPost g (w.set x.fact.toNat (-sgn x)) left true w' left') (h0 : ((2 ^ opens w0 : Nat) : Int) ≤ left0) : SPost g w0 left0 true w' left' := by
  have hr' : inR w.length x := ⟨hr.1, by rw [h.ext.1]; exact hr.2⟩
  have hg0 : valAt w x.fact = 0 := by unfold litV at hv; split at hv <;> omega
  have hg0 : w[x.fact.toNat]? = some 0 := by rw [valAt_get hr', hg0]
  have hs := sgn_ne x
  have ho1 := opens_set (s := -sgn x) hg0 (by omega)
  have hpow : (2 : Nat) ^ opens w = 2 ^ opens (w.set x.fact.toNat (-sgn x)) + 2 ^ opens (w.set x.fact.toNat (-sgn x)) := by
    rw [← ho1, Nat.pow_succ]; omega
  have hpp : 0 < 2 ^ opens (w.set x.fact.toNat (-sgn x)) := Nat.pow_pos (by omega)
  exact ⟨hp.tri, h.ext.trans ((ext_set hg0 _).trans hp.ext), by have := hp.lo; have := h.lo; omega, by have := hp.hi; have := h.hi; omega, hp.yes, by simp⟩
/-- All literals are through. -/
theorem SLoop.done {g : List (List FLit)} {l : List FLit} {w0 : List Int} {left0 : Int} {set w : List Int} {left : Int} (h : SLoop g l w0 left0 l.length set w left) (hl : l ∈ g) (ht : Tri w0) : SPost g w0 left0 false w0 left := by
  refine ⟨ht, .refl _, ?_, h.hi, by simp, fun _ => ⟨rfl, fun a hc => ?_⟩⟩
  · have := h.lo
    have hpp : 0 < 2 ^ opens w := Nat.pow_pos (by omega)
    omega
  · by_cases hg : ∀ t ∈ g, termT a t = false
    · refine ⟨l, hl, ?_⟩
      have h2 := (h.all a hc hg).2
      rw [List.take_length] at h2
      exact List.all_eq_true.2 h2
    · have ⟨t, hq⟩ := Classical.not_forall.1 hg
      have ⟨h3, h4⟩ := Classical.not_imp.1 hq
      exact ⟨t, h3, by simpa using h4⟩
end Go.Proofs.YtbnhijapbnfohaaGreat
/- The abstract layer, part 25: two cells of the store that a family of closures turns: a row of numbers and a number. -/
namespace Go.Ahl
def ai (n : Int) : AV := .int .i64 n
theorem mset (w : List Int) (k : Nat) (y : Int) : (w.map ai).set k (.int .i64 y) = (w.set k y).map ai := by rw [List.map_set]; rfl
/-- The store with row R and number L turned. -/
def upd (S : Store) (R L : Nat) (w : List Int) (n : Int) : Store := (S.set R (.row (w.map ai))).set L (.row [.int .i64 n])
section
variable {S : Store} {R L : Nat}
theorem upd_len (w : List Int) (n : Int) : (upd S R L w n).length = S.length := by simp [upd]
theorem upd_get {i : Nat} {o : AObj} (h : S[i]? = some o) (h1 : R ≠ i) (h2 : L ≠ i) (w : List Int) (n : Int) : (upd S R L w n)[i]? = some o := by
  rw [upd, List.getElem?_set_ne h2, List.getElem?_set_ne h1]; exact h
theorem upd_get' {i : Nat} {o : AObj} (h : S[i]? = some o) (h1 : R ≠ i) (h2 : L ≠ i) (w : List Int) (n : Int) (t : Store) : (upd S R L w n ++ t)[i]? = some o := by
  rw [List.getElem?_append_left (by rw [upd_len]; exact lt_of_get h)]; exact upd_get h h1 h2 w n
theorem upd_R (hR : R < S.length) (hne : R ≠ L) (w : List Int) (n : Int) : (upd S R L w n)[R]? = some (.row (w.map ai)) := by
  rw [upd, List.getElem?_set_ne (Ne.symm hne), List.getElem?_set_self hR]
theorem upd_R' (hR : R < S.length) (hne : R ≠ L) (w : List Int) (n : Int) (t : Store) : (upd S R L w n ++ t)[R]? = some (.row (w.map ai)) := by
  rw [List.getElem?_append_left (by rw [upd_len]; exact hR)]; exact upd_R hR hne w n
theorem upd_L (hL : L < S.length) (w : List Int) (n : Int) : (upd S R L w n)[L]? = some (.row [.int .i64 n]) := by
  rw [upd, List.getElem?_set_self (by simpa using hL)]
theorem upd_L' (hL : L < S.length) (w : List Int) (n : Int) (t : Store) : (upd S R L w n ++ t)[L]? = some (.row [.int .i64 n]) := by
  rw [List.getElem?_append_left (by rw [upd_len]; exact hL)]; exact upd_L hL w n
theorem upd_setL (w : List Int) (n k : Int) : (upd S R L w n).set L (.row [.int .i64 k]) = upd S R L w k := by rw [upd, upd, List.set_set]
theorem upd_setR (hne : R ≠ L) (w w' : List Int) (n : Int) : (upd S R L w n).set R (.row (w'.map ai)) = upd S R L w' n := by
  rw [upd, upd, List.set_comm _ _ (Ne.symm hne), List.set_set]
theorem upd_setR' (hR : R < S.length) (hne : R ≠ L) (w w' : List Int) (n : Int) (t : Store) : (upd S R L w n ++ t).set R (.row (w'.map ai)) = upd S R L w' n ++ t := by
  rw [List.set_append_left _ _ (by rw [upd_len]; exact hR), upd_setR hne]
theorem upd_app (hR : R < S.length) (hL : L < S.length) (w : List Int) (n : Int) (t : Store) : upd S R L w n ++ t = upd (S ++ t) R L w n := by
  rw [upd, upd, List.set_append_left _ _ hR, List.set_append_left _ _ (by simpa using hL)]
theorem upd_end (w : List Int) (n : Int) (x : AObj) (t : Store) : (upd S R L w n ++ x :: t)[S.length]? = some x := by
  rw [List.getElem?_append_right (by rw [upd_len]; omega), upd_len, Nat.sub_self]; rfl
theorem upd_endk (w : List Int) (n : Int) (t : Store) (k : Nat) : (upd S R L w n ++ t)[S.length + k]? = t[k]? := by
  rw [List.getElem?_append_right (by rw [upd_len]; omega), upd_len]; congr 1; omega
theorem upd_setEk (w : List Int) (n : Int) (y : AObj) (t : Store) (k : Nat) : (upd S R L w n ++ t).set (S.length + k) y = upd S R L w n ++ t.set k y := by
  rw [List.set_append_right _ _ (by rw [upd_len]; omega), upd_len]; congr 2; omega
theorem upd_setE (w : List Int) (n : Int) (x y : AObj) (t : Store) : (upd S R L w n ++ x :: t).set S.length y = upd S R L w n ++ y :: t := by
  rw [List.set_append_right _ _ (by rw [upd_len]; omega), upd_len, Nat.sub_self]; rfl
theorem ids_ai {n : Nat} (w : List Int) : IdsO n (.row (w.map ai)) := idsO_row (by intro x hx; obtain ⟨y, _, rfl⟩ := List.mem_map.1 hx; exact .int _ _)
theorem ids_upd {w w' : List Int} {n n' : Int} (h : IdsS S.length (upd S R L w n)) : IdsS S.length (upd S R L w' n') := by
  intro i o e
  by_cases h1 : L = i
  · subst h1
    rw [upd] at e
    rcases get_set e with ⟨_, rfl⟩ | ⟨h, _⟩
    · exact idsO_row (by intro x hx; simp at hx; subst hx; exact .int _ _)
    · exact absurd rfl h
  by_cases h2 : R = i
  · subst h2
    rw [upd, List.getElem?_set_ne h1] at e
    rcases get_set e with ⟨_, rfl⟩ | ⟨h, _⟩
    · exact ids_ai w'
    · exact absurd rfl h
  · rw [upd, List.getElem?_set_ne h1, List.getElem?_set_ne h2] at e
    exact h i o (by rw [upd, List.getElem?_set_ne h1, List.getElem?_set_ne h2]; exact e)
theorem ret_upd {nt t : Nat} {s : Slots} {g : Store} {Q : Cont} {w w' : List Int} {n n' : Int} (v : AV) (h : Q v (upd S R L w' n')) (hs : IdsS S.length (upd S R L w n)) (hw : Wk (lk s t) v := by exact Wk.refl _) (hi : Ids S.length v := by exact .bool _) :
    bodyK [.tmp t] S.length nt Q .ret s (upd S R L w' n' ++ g) := by
  have hs' : IdsS (upd S R L w' n').length (upd S R L w' n') := by rw [upd_len]; exact ids_upd hs
  refine ret_gh (v := v) (σ' := upd S R L w' n') (.keep g (by rw [upd_len]; omega) ⟨⟨hw, by rw [upd_len]; exact hi⟩, trivial⟩ hs') (by rw [upd_len]; omega) hs' (by rw [upd_len]; exact hi) h
theorem ret_upd0 {nt t : Nat} {s : Slots} {Q : Cont} {w w' : List Int} {n n' : Int} (v : AV) (h : Q v (upd S R L w' n')) (hs : IdsS S.length (upd S R L w n)) (hw : Wk (lk s t) v := by exact Wk.refl _) (hi : Ids S.length v := by exact .bool _) :
    bodyK [.tmp t] S.length nt Q .ret s (upd S R L w' n') := by
  have := ret_upd (g := []) (nt := nt) (n' := n') v h hs hw hi
  rwa [List.append_nil] at this
end
section
variable {n0 nt : Nat} {s s' : Slots} {σ : Store}
/-- The end of a function with three results. -/
theorem ret_gh3 {t u x : Nat} {v v1 v2 : AV} {σ' : Store} {R : Cont} {n0 : Nat} (hg : Ghost n0 nt s σ [(t, v), (u, v1), (x, v2)] σ') (h1 : (t == u) = false) (h2 : (t == x) = false) (h3 : (u == x) = false) (hn : n0 ≤ σ'.length) (hσ : IdsS σ'.length σ')
    (hi : Ids σ'.length v) (hj : Ids σ'.length v1) (hk : Ids σ'.length v2) (h : R (.tuple [v, v1, v2]) σ') : bodyK [.tmp t, .tmp u, .tmp x] n0 nt R .ret s σ := by
  refine ⟨_, _, hg, σ'.length, hn, by simpa using hσ, ?_⟩
  simp only [one, Ahl.lk, h1, h2, h3, beq_self_eq_true, cond_true, cond_false, List.take_length]
  exact ⟨.tuple _ (fun j y hy => by match j, hy with | 0, hy => simp at hy; subst hy; exact hi | 1, hy => simp at hy; subst hy; exact hj | 2, hy => simp at hy; subst hy; exact hk), h⟩
end
section -- ghosts
variable {S : Store} {R L : Nat} {nt : Nat} {s s' : Slots} {g : Store} {w w1 : List Int} {n n1 : Int}
theorem ghU_begin {n0 : Nat} (t sz : Nat) (r : Slots) (hs : IdsS S.length (upd S R L w1 n1)) (h1 : TellW s S.length ((t, .slice .nil []) :: r) := by simp only [TellW, lk, Nat.reduceBEq, cond_true, cond_false, and_true, List.length_cons, List.length_nil, Nat.reduceAdd]; and_intros <;> first | exact Wk.refl _ | exact Wk.unk _ _ | exact Wk.fresh _ _ | exact Wk.fresh0 _ | exact Wk.slice _ (WkLL.one (WkL.one (Wk.unk _ _))) | exact Wk.slice _ (WkLL.one (WkL.one (Wk.fresh _ _))) | exact Wk.any _ | first | assumption | exact .int _ _ | exact .bool _ | exact .str _ | exact .any | exact .mapnil | exact .ptr _ _ (by omega) | exact .ref _ _ _ _ (by omega) | exact .vec _ _ _ (by omega) | exact .map _ (by omega) | exact ids_mapE _ | exact ids_mapF _ | exact ids_growE (by omega) _ | exact ids_aggE _ | (refine ids_up ?_ (by assumption); omega) | exact ids_func0 _ | exact ids_nil _ (by simp) | (simp only [encLit, encI, encT, encC, encA, encE, encL, encTask, encB]; done)) (hn : n0 ≤ S.length := by first | exact Nat.le_refl _ | omega) : Ghost n0 nt s (upd S R L w n ++ g) ((t, .slice (.grow S.length) []) :: r) (upd S R L w n ++ [.grow sz 0]) := by
  have hl := upd_len (S := S) (R := R) (L := L) w n
  have := Ghost.begin (nt := nt) (n0 := n0) (σ := upd S R L w n) (g := g) (s := s) t sz r (by omega) (by rw [hl]; exact h1) (by rw [hl]; exact ids_upd hs)
  rwa [hl] at this
theorem ghU_begin0 {n0 : Nat} (t sz : Nat) (r : Slots) (hs : IdsS S.length (upd S R L w1 n1)) (h1 : TellW s S.length ((t, .slice .nil []) :: r) := by simp only [TellW, lk, Nat.reduceBEq, cond_true, cond_false, and_true, List.length_cons, List.length_nil, Nat.reduceAdd]; and_intros <;> first | exact Wk.refl _ | exact Wk.unk _ _ | exact Wk.fresh _ _ | exact Wk.fresh0 _ | exact Wk.slice _ (WkLL.one (WkL.one (Wk.unk _ _))) | exact Wk.slice _ (WkLL.one (WkL.one (Wk.fresh _ _))) | exact Wk.any _ | first | assumption | exact .int _ _ | exact .bool _ | exact .str _ | exact .any | exact .mapnil | exact .ptr _ _ (by omega) | exact .ref _ _ _ _ (by omega) | exact .vec _ _ _ (by omega) | exact .map _ (by omega) | exact ids_mapE _ | exact ids_mapF _ | exact ids_growE (by omega) _ | exact ids_aggE _ | (refine ids_up ?_ (by assumption); omega) | exact ids_func0 _ | exact ids_nil _ (by simp) | (simp only [encLit, encI, encT, encC, encA, encE, encL, encTask, encB]; done)) (hn : n0 ≤ S.length := by first | exact Nat.le_refl _ | omega) : Ghost n0 nt s (upd S R L w n) ((t, .slice (.grow S.length) []) :: r) (upd S R L w n ++ [.grow sz 0]) := by
  have := ghU_begin (g := []) (nt := nt) (w := w) (n := n) t sz r hs h1 hn
  rwa [List.append_nil] at this
theorem ghU {n0 : Nat} (l : Store) (hs : IdsS S.length (upd S R L w1 n1)) (hl : ∀ o ∈ l, IdsO (S.length + l.length) o) (h1 : TellW s (S.length + l.length) s' := by simp only [TellW, lk, Nat.reduceBEq, cond_true, cond_false, and_true, List.length_cons, List.length_nil, Nat.reduceAdd]; and_intros <;> first | exact Wk.refl _ | exact Wk.unk _ _ | exact Wk.fresh _ _ | exact Wk.fresh0 _ | exact Wk.slice _ (WkLL.one (WkL.one (Wk.unk _ _))) | exact Wk.slice _ (WkLL.one (WkL.one (Wk.fresh _ _))) | exact Wk.any _ | first | assumption | exact .int _ _ | exact .bool _ | exact .str _ | exact .any | exact .mapnil | exact .ptr _ _ (by omega) | exact .ref _ _ _ _ (by omega) | exact .vec _ _ _ (by omega) | exact .map _ (by omega) | exact ids_mapE _ | exact ids_mapF _ | exact ids_growE (by omega) _ | exact ids_aggE _ | (refine ids_up ?_ (by assumption); omega) | exact ids_func0 _ | exact ids_nil _ (by simp) | (simp only [encLit, encI, encT, encC, encA, encE, encL, encTask, encB]; done)) (hn : n0 ≤ S.length := by first | exact Nat.le_refl _ | omega) : Ghost n0 nt s (upd S R L w n ++ (l ++ g)) s' (upd S R L w n ++ l) := by
  have hl' := upd_len (S := S) (R := R) (L := L) w n
  exact Ghost.keepL l rfl (by omega) (by rw [hl']; exact h1) (idsS_app l (by rw [hl']; exact ids_upd hs) (by rw [hl']; exact hl))
theorem ghU0 {n0 : Nat} (l : Store) (hs : IdsS S.length (upd S R L w1 n1)) (hl : ∀ o ∈ l, IdsO (S.length + l.length) o) (h1 : TellW s (S.length + l.length) s' := by simp only [TellW, lk, Nat.reduceBEq, cond_true, cond_false, and_true, List.length_cons, List.length_nil, Nat.reduceAdd]; and_intros <;> first | exact Wk.refl _ | exact Wk.unk _ _ | exact Wk.fresh _ _ | exact Wk.fresh0 _ | exact Wk.slice _ (WkLL.one (WkL.one (Wk.unk _ _))) | exact Wk.slice _ (WkLL.one (WkL.one (Wk.fresh _ _))) | exact Wk.any _ | first | assumption | exact .int _ _ | exact .bool _ | exact .str _ | exact .any | exact .mapnil | exact .ptr _ _ (by omega) | exact .ref _ _ _ _ (by omega) | exact .vec _ _ _ (by omega) | exact .map _ (by omega) | exact ids_mapE _ | exact ids_mapF _ | exact ids_growE (by omega) _ | exact ids_aggE _ | (refine ids_up ?_ (by assumption); omega) | exact ids_func0 _ | exact ids_nil _ (by simp) | (simp only [encLit, encI, encT, encC, encA, encE, encL, encTask, encB]; done)) (hn : n0 ≤ S.length := by first | exact Nat.le_refl _ | omega) : Ghost n0 nt s (upd S R L w n ++ l) s' (upd S R L w n ++ l) := by
  have := ghU (g := []) (nt := nt) (w := w) (n := n) l hs hl h1 hn
  rwa [List.append_nil] at this
theorem ghUn {n0 : Nat} (hs : IdsS S.length (upd S R L w1 n1)) (h1 : TellW s S.length s' := by simp only [TellW, lk, Nat.reduceBEq, cond_true, cond_false, and_true, List.length_cons, List.length_nil, Nat.reduceAdd]; and_intros <;> first | exact Wk.refl _ | exact Wk.unk _ _ | exact Wk.fresh _ _ | exact Wk.fresh0 _ | exact Wk.slice _ (WkLL.one (WkL.one (Wk.unk _ _))) | exact Wk.slice _ (WkLL.one (WkL.one (Wk.fresh _ _))) | exact Wk.any _ | first | assumption | exact .int _ _ | exact .bool _ | exact .str _ | exact .any | exact .mapnil | exact .ptr _ _ (by omega) | exact .ref _ _ _ _ (by omega) | exact .vec _ _ _ (by omega) | exact .map _ (by omega) | exact ids_mapE _ | exact ids_mapF _ | exact ids_growE (by omega) _ | exact ids_aggE _ | (refine ids_up ?_ (by assumption); omega) | exact ids_func0 _ | exact ids_nil _ (by simp) | (simp only [encLit, encI, encT, encC, encA, encE, encL, encTask, encB]; done)) (hn : n0 ≤ S.length := by first | exact Nat.le_refl _ | omega) : Ghost n0 nt s (upd S R L w n ++ g) s' (upd S R L w n) := by
  have := ghU (g := g) (nt := nt) (w := w) (n := n) [] hs (by simp) h1 hn
  rwa [List.nil_append, List.append_nil] at this
theorem ghUn0 {n0 : Nat} (hs : IdsS S.length (upd S R L w1 n1)) (h1 : TellW s S.length s' := by simp only [TellW, lk, Nat.reduceBEq, cond_true, cond_false, and_true, List.length_cons, List.length_nil, Nat.reduceAdd]; and_intros <;> first | exact Wk.refl _ | exact Wk.unk _ _ | exact Wk.fresh _ _ | exact Wk.fresh0 _ | exact Wk.slice _ (WkLL.one (WkL.one (Wk.unk _ _))) | exact Wk.slice _ (WkLL.one (WkL.one (Wk.fresh _ _))) | exact Wk.any _ | first | assumption | exact .int _ _ | exact .bool _ | exact .str _ | exact .any | exact .mapnil | exact .ptr _ _ (by omega) | exact .ref _ _ _ _ (by omega) | exact .vec _ _ _ (by omega) | exact .map _ (by omega) | exact ids_mapE _ | exact ids_mapF _ | exact ids_growE (by omega) _ | exact ids_aggE _ | (refine ids_up ?_ (by assumption); omega) | exact ids_func0 _ | exact ids_nil _ (by simp) | (simp only [encLit, encI, encT, encC, encA, encE, encL, encTask, encB]; done)) (hn : n0 ≤ S.length := by first | exact Nat.le_refl _ | omega) : Ghost n0 nt s (upd S R L w n) s' (upd S R L w n) := by
  have := ghUn (g := []) (nt := nt) (w := w) (n := n) hs h1 hn
  rwa [List.append_nil] at this
end
section
variable {nt t u x : Nat} {s : Slots} {σ S : Store} {R : Cont}
/-- The end of a function with three results whose store begins as it was. -/
theorem ret3 (v v1 v2 : AV) (ht : S.take σ.length = σ) (h : R (.tuple [v, v1, v2]) σ) (hσ : IdsS σ.length σ := by assumption) (h1 : (t == u) = false := by rfl) (h2 : (t == x) = false := by rfl) (h3 : (u == x) = false := by rfl)
    (hw : Wk (lk s t) v := by first | exact Wk.refl _ | exact Wk.unk _ _ | exact Wk.fresh _ _ | exact Wk.fresh0 _ | exact Wk.any _) (hw1 : Wk (lk s u) v1 := by first | exact Wk.refl _ | exact Wk.unk _ _ | exact Wk.fresh _ _ | exact Wk.fresh0 _ | exact Wk.any _) (hw2 : Wk (lk s x) v2 := by first | exact Wk.refl _ | exact Wk.unk _ _ | exact Wk.fresh _ _ | exact Wk.fresh0 _ | exact Wk.any _) (hi : Ids σ.length v := by first | assumption | exact .int _ _ | exact .bool _ | exact .str _ | exact .any | exact .mapnil | exact .ptr _ _ (by omega) | exact .ref _ _ _ _ (by omega) | exact .vec _ _ _ (by omega) | exact .map _ (by omega) | exact ids_mapE _ | exact ids_mapF _ | exact ids_growE (by omega) _ | exact ids_aggE _ | (refine ids_up ?_ (by assumption); omega) | exact ids_func0 _ | exact ids_nil _ (by simp) | (simp only [encLit, encI, encT, encC, encA, encE, encL, encTask, encB]; done)) (hj : Ids σ.length v1 := by first | assumption | exact .int _ _ | exact .bool _ | exact .str _ | exact .any | exact .mapnil | exact .ptr _ _ (by omega) | exact .ref _ _ _ _ (by omega) | exact .vec _ _ _ (by omega) | exact .map _ (by omega) | exact ids_mapE _ | exact ids_mapF _ | exact ids_growE (by omega) _ | exact ids_aggE _ | (refine ids_up ?_ (by assumption); omega) | exact ids_func0 _ | exact ids_nil _ (by simp) | (simp only [encLit, encI, encT, encC, encA, encE, encL, encTask, encB]; done)) (hk : Ids σ.length v2 := by first | assumption | exact .int _ _ | exact .bool _ | exact .str _ | exact .any | exact .mapnil | exact .ptr _ _ (by omega) | exact .ref _ _ _ _ (by omega) | exact .vec _ _ _ (by omega) | exact .map _ (by omega) | exact ids_mapE _ | exact ids_mapF _ | exact ids_growE (by omega) _ | exact ids_aggE _ | (refine ids_up ?_ (by assumption); omega) | exact ids_func0 _ | exact ids_nil _ (by simp) | (simp only [encLit, encI, encT, encC, encA, encE, encL, encTask, encB]; done)) : bodyK [.tmp t, .tmp u, .tmp x] σ.length nt R .ret s S := by
  refine ret_gh3 (v := v) (v1 := v1) (v2 := v2) (σ' := σ) ?_ h1 h2 h3 (Nat.le_refl _) hσ hi hj hk h
  have := Ghost.cut (n0 := σ.length) (nt := nt) (σ := S) (s := s) [(t, v), (u, v1), (x, v2)] σ.length (Nat.le_refl _) ⟨⟨hw, hi⟩, ⟨hw1, hj⟩, ⟨hw2, hk⟩, trivial⟩ (by rw [ht]; exact hσ)
  rwa [ht] at this
end
end Go.Ahl
namespace Go.Proofs.YtbnhijapbnfohaaGreat
open Go.Ahl
def c_esc1 : CCode := .seq (.ops [⟨some 2, .box (.tmp 0), none, []⟩, ⟨some 3, .move (.lit (.int .i64 0)), none, []⟩]) (.seq (.seq (.ops [⟨some 4, .faddr 1 (.tmp 2), none, []⟩, ⟨some 5, .load none (.tmp 4), none, []⟩]) (.cond (.tmp 5) (.seq (.ops [⟨some 6, .load none (.tmp 1), none, []⟩, ⟨some 7, .faddr 0 (.tmp 2), none, []⟩, ⟨some 8, .load none (.tmp 7), none, []⟩, ⟨some 9, .iaddr 1 (.tmp 6) (.tmp 8), none, []⟩, ⟨some 10, .load none (.tmp 9), none, []⟩, ⟨some 11, .un .neg (.tmp 10), none, []⟩, ⟨some 3, .move (.tmp 11), none, []⟩]) .ret) .skip)) (.seq (.ops [⟨some 12, .load none (.tmp 1), none, []⟩, ⟨some 13, .faddr 0 (.tmp 2), none, []⟩, ⟨some 14, .load none (.tmp 13), none, []⟩, ⟨some 15, .iaddr 1 (.tmp 12) (.tmp 14), none, []⟩, ⟨some 16, .load none (.tmp 15), none, []⟩, ⟨some 3, .move (.tmp 16), none, []⟩]) .ret))
set_option maxRecDepth 20000 in
theorem esc1_spec (V R : Nat) (w : List Int) (x : FLit) (σ : Store) (hV : σ[V]? = some (.row [.ref R 1 0 w.length])) (hR : σ[R]? = some (.row (w.map ai))) (hx : inR w.length x) (hw : Tri w) :
    ACalls Tryz.prog 69 [.agg (encLit x), .ptr V 0] σ (isR (.int .i64 (litV w x)) σ) := by
  refine ACalls.intro (rs := [(.tmp 3)]) (by kernel_rfl) { own := [], ghosts := [] } Tryz.func69 (c := Tryz.f69.body.getD .skip) (by kernel_rfl) (by decide) (by rw [show Tryz.f69.ntmps = 17 by kernel_rfl]; exact Nat.le_of_ble_eq_true rfl) (by kernel_rfl) ?_
  intro hσ hids
  rw [show comp Tryz.prog { own := [], ghosts := [] } (Tryz.f69.body.getD .skip) = c_esc1 by kernel_rfl, show Tryz.f69.ntmps = 17 by kernel_rfl]
  unfold c_esc1
  have hV' : ∀ l, (σ ++ l)[V]? = some (.row [.ref R 1 0 w.length]) := fun l => by rw [List.getElem?_append_left (lt_of_get hV)]; exact hV
  have hR' : ∀ l, (σ ++ l)[R]? = some (.row (w.map ai)) := fun l => by rw [List.getElem?_append_left (lt_of_get hR)]; exact hR
  have h0 := hx.1
  have h1 : x.fact.toNat < w.length := by have := hx.2; omega
  have hg := valAt_get hx
  have ht := valAt_tri hw x.fact
  have hwn : IntKind.i64.wrap (0 - valAt w x.fact) = -valAt w x.fact := by rw [wrap_ok (by omega)]; omega
  unfold litV
  cases hn : x.neg
  · simp only [go_sem, Int.reduceToNat, Int.reduceLE, Int.reduceLT, Nat.reduceBEq, Nat.reduceLT, Nat.reduceAdd, Nat.reduceLeDiff, encLit, hn, hV', hR', h0, h1, hg, ai]
    first | exact rtk (.int .i64 (valAt w x.fact)) ⟨rfl, rfl⟩ | exact rtk0 (.int .i64 (valAt w x.fact)) ⟨rfl, rfl⟩
  · simp only [go_sem, Int.reduceToNat, Int.reduceLE, Int.reduceLT, Nat.reduceBEq, Nat.reduceLT, Nat.reduceAdd, Nat.reduceLeDiff, encLit, hn, hV', hR', h0, h1, hg, ai, hwn]
    first | exact rtk (.int .i64 (-valAt w x.fact)) ⟨rfl, rfl⟩ | exact rtk0 (.int .i64 (-valAt w x.fact)) ⟨rfl, rfl⟩
def c_esc211 : CCode := .seq (.ops [⟨some 2, .box (.tmp 0), none, []⟩, ⟨some 3, .move (.lit (.bool false)), none, []⟩]) (.seq (.ops [⟨some 4, .load none (.tmp 1), none, []⟩, ⟨some 5, .load (some 2) (.tmp 2), none, []⟩, ⟨some 6, .call (.tmp 4) [.tmp 5], none, []⟩, ⟨some 7, .bin .lss .none (.tmp 6) (.lit (.int .i64 0)), none, []⟩, ⟨some 3, .move (.tmp 7), none, []⟩]) .ret)
set_option maxRecDepth 20000 in
theorem esc211_spec (V R H : Nat) (w : List Int) (x : FLit) (σ : Store) (hV : σ[V]? = some (.row [.ref R 1 0 w.length])) (hR : σ[R]? = some (.row (w.map ai))) (hH : σ[H]? = some (.row [.func 69 [.ptr V 0]])) (hx : inR w.length x) (hw : Tri w) :
    ACalls Tryz.prog 74 [.agg (encLit x), .ptr H 0] σ (isR (.bool (decide (litV w x < 0))) σ) := by
  refine ACalls.intro (rs := [(.tmp 3)]) (by kernel_rfl) { own := [], ghosts := [] } Tryz.func74 (c := Tryz.f74.body.getD .skip) (by kernel_rfl) (by decide) (by rw [show Tryz.f74.ntmps = 8 by kernel_rfl]; exact Nat.le_of_ble_eq_true rfl) (by kernel_rfl) ?_
  intro hσ hids
  rw [show comp Tryz.prog { own := [], ghosts := [] } (Tryz.f74.body.getD .skip) = c_esc211 by kernel_rfl, show Tryz.f74.ntmps = 8 by kernel_rfl]
  unfold c_esc211
  have hV' : ∀ l, (σ ++ l)[V]? = some (.row [.ref R 1 0 w.length]) := fun l => by rw [List.getElem?_append_left (lt_of_get hV)]; exact hV
  have hR' : ∀ l, (σ ++ l)[R]? = some (.row (w.map ai)) := fun l => by rw [List.getElem?_append_left (lt_of_get hR)]; exact hR
  have hH' : ∀ l, (σ ++ l)[H]? = some (.row [.func 69 [.ptr V 0]]) := fun l => by rw [List.getElem?_append_left (lt_of_get hH)]; exact hH
  simp only [go_sem, Int.reduceToNat, Int.reduceLE, Int.reduceLT, Nat.reduceBEq, Nat.reduceLT, Nat.reduceAdd, Nat.reduceLeDiff, encLit, hH']
  refine (esc1_spec V R w x _ (hV' _) (hR' _) hx hw).is ?_
  simp only [go_sem, Int.reduceToNat, Int.reduceLE, Int.reduceLT, Nat.reduceBEq, Nat.reduceLT, Nat.reduceAdd, Nat.reduceLeDiff]
  first | exact rtw (v := .bool _) wkS ⟨rfl, rfl⟩ | exact rtw0 (v := .bool _) wkS ⟨rfl, rfl⟩
def c_esc21 : CCode := .seq (.ops [⟨some 3, .move (.lit (.bool false)), none, []⟩]) (.seq (.ops [⟨some 4, .move (.tmp 0), none, []⟩, ⟨some 5, .mkfunc 74 [.tmp 1], none, []⟩, ⟨some 6, .call (.lit (.func 73 [])) [.tmp 4, .tmp 5], none, []⟩, ⟨some 7, .un .not (.tmp 6), none, []⟩, ⟨some 3, .move (.tmp 7), none, []⟩]) .ret)
set_option maxRecDepth 20000 in
theorem esc21_spec (V R H : Nat) (w : List Int) (l : List FLit) (σ : Store) (hV : σ[V]? = some (.row [.ref R 1 0 w.length])) (hR : σ[R]? = some (.row (w.map ai))) (hH : σ[H]? = some (.row [.func 69 [.ptr V 0]])) (hx : ∀ x ∈ l, inR w.length x) (hw : Tri w) (hl : l.length ≤ 140737488355328) :
    ACalls Tryz.prog 72 [.slice .unk (l.map encLit), .ptr H 0] σ (isR (.bool (liveT w l)) σ) := by
  refine ACalls.intro (rs := [(.tmp 3)]) (by kernel_rfl) { own := [], ghosts := [] } Tryz.func72 (c := Tryz.f72.body.getD .skip) (by kernel_rfl) (by decide) (by rw [show Tryz.f72.ntmps = 8 by kernel_rfl]; exact Nat.le_of_ble_eq_true rfl) (by kernel_rfl) ?_
  intro hσ hids
  rw [show comp Tryz.prog { own := [], ghosts := [] } (Tryz.f72.body.getD .skip) = c_esc21 by kernel_rfl, show Tryz.f72.ntmps = 8 by kernel_rfl]
  unfold c_esc21
  have hii : Ids σ.length (.ptr H 0) := .ptr _ _ (lt_of_get hH)
  simp only [go_sem, Int.reduceToNat, Int.reduceLE, Int.reduceLT, Nat.reduceBEq, Nat.reduceLT, Nat.reduceAdd, Nat.reduceLeDiff]
  refine (containsFuncL_spec l _ [.ptr H 0] (fun x => decide (litV w x < 0)) .unk σ hl (fun x hm => esc211_spec V R H w x σ hV hR hH (hx x hm) hw)).is ?_
  simp only [go_sem, Int.reduceToNat, Int.reduceLE, Int.reduceLT, Nat.reduceBEq, Nat.reduceLT, Nat.reduceAdd, Nat.reduceLeDiff]
  first | exact rtw (v := .bool _) wkS ⟨rfl, rfl⟩ | exact rtw0 (v := .bool _) wkS ⟨rfl, rfl⟩
/-- The cells of a search. -/
structure EscE (S : Store) (V R L G H Z n : Nat) (gt : Tok) (g : List (List FLit)) : Prop where
  v : S[V]? = some (.row [.ref R 1 0 n])
  r : R < S.length
  l : L < S.length
  g : S[G]? = some (.row [.slice gt (g.map encC)])
  h : S[H]? = some (.row [.func 69 [.ptr V 0]])
  z : S[Z]? = some (.row [.func 70 [.ptr L 0, .ptr G 0, .ptr H 0, .ptr V 0, .ptr Z 0]])
  rl : R ≠ L
  rv : R ≠ V
  lv : L ≠ V
  rg : R ≠ G
  lg : L ≠ G
  rh : R ≠ H
  lh : L ≠ H
  rz : R ≠ Z
  lz : L ≠ Z
theorem EscE.app {S : Store} {V R L G H Z n : Nat} {gt : Tok} {g : List (List FLit)} (e : EscE S V R L G H Z n gt g) (t : Store) : EscE (S ++ t) V R L G H Z n gt g where
  v := by rw [List.getElem?_append_left (lt_of_get e.v)]; exact e.v
  r := by have := e.r; simp; omega
  l := by have := e.l; simp; omega
  g := by rw [List.getElem?_append_left (lt_of_get e.g)]; exact e.g
  h := by rw [List.getElem?_append_left (lt_of_get e.h)]; exact e.h
  z := by rw [List.getElem?_append_left (lt_of_get e.z)]; exact e.z
  rl := e.rl
  rv := e.rv
  lv := e.lv
  rg := e.rg
  lg := e.lg
  rh := e.rh
  lh := e.lh
  rz := e.rz
  lz := e.lz
def c_esc2 : CCode := .seq (.ops [⟨some 5, .move (.lit (.bool false)), none, []⟩]) (.seq (.seq (.ops [⟨some 14, .load none (.tmp 0), none, []⟩, ⟨some 15, .bin .sub .none (.tmp 14) (.lit (.int .i64 1)), none, []⟩, ⟨none, .store 1 (.tmp 0) (.tmp 15), none, []⟩]) (.seq (.ops [⟨some 16, .load none (.tmp 0), none, []⟩, ⟨some 17, .bin .lss .none (.tmp 16) (.lit (.int .i64 0)), none, []⟩]) (.cond (.tmp 17) (.seq (.ops [⟨some 5, .move (.lit (.bool true)), none, []⟩]) .ret) .skip))) (.seq (.ops [⟨some 18, .load none (.tmp 1), none, []⟩, ⟨some 19, .mkfunc 72 [.tmp 2], none, []⟩, ⟨some 20, .call (.lit (.func 71 [])) [.tmp 18, .tmp 19], none, []⟩, ⟨some 6, .move (.tmp 20), none, []⟩]) (.seq (.seq (.ops [⟨some 21, .move (.tmp 6), none, []⟩, ⟨some 22, .bin .lss .none (.tmp 21) (.lit (.int .i64 0)), none, []⟩]) (.cond (.tmp 22) (.seq (.ops [⟨some 5, .move (.lit (.bool true)), none, []⟩]) .ret) .skip)) (.seq (.ops [⟨some 7, .move (.lit (.slice .nil [])), none, []⟩]) (.seq (.ops [⟨some 8, .move (.lit (.bool false)), none, []⟩]) (.seq (.seq (.ops [⟨some 23, .load none (.tmp 1), none, []⟩, ⟨some 24, .move (.tmp 6), none, []⟩, ⟨some 25, .iaddr 1 (.tmp 23) (.tmp 24), none, []⟩, ⟨some 26, .load none (.tmp 25), none, []⟩, ⟨some 27, .blen 1 (.tmp 26), none, []⟩, ⟨some 28, .move (.lit (.int .i64 0)), none, []⟩]) (.block 0 (.loop (.seq (.ops [⟨some 29, .bin .lss .none (.tmp 28) (.tmp 27), none, []⟩]) (.seq (.cond (.tmp 29) .skip (.exit 0)) (.seq (.block 1 (.seq (.ops [⟨some 30, .iaddr 2 (.tmp 26) (.tmp 28), none, []⟩, ⟨some 31, .load (some 2) (.tmp 30), none, []⟩, ⟨some 10, .alloc (.agg [.int .i64 0, .bool false]), none, []⟩, ⟨none, .store 2 (.tmp 10) (.tmp 31), none, []⟩]) (.seq (.seq (.ops [⟨some 32, .load none (.tmp 2), none, []⟩, ⟨some 33, .load (some 2) (.tmp 10), none, []⟩, ⟨some 34, .call (.tmp 32) [.tmp 33], none, []⟩, ⟨some 35, .bin .neq .none (.tmp 34) (.lit (.int .i64 0)), none, []⟩]) (.cond (.tmp 35) (.exit 1) .skip)) (.seq (.ops [⟨some 11, .move (.lit (.int .i64 1)), none, []⟩]) (.seq (.seq (.ops [⟨some 36, .faddr 1 (.tmp 10), none, []⟩, ⟨some 37, .load none (.tmp 36), none, []⟩]) (.cond (.tmp 37) (.ops [⟨some 11, .move (.lit (.int .i64 (-1))), none, []⟩]) .skip)) (.seq (.ops [⟨some 38, .load none (.tmp 3), none, []⟩, ⟨some 39, .faddr 0 (.tmp 10), none, []⟩, ⟨some 40, .load none (.tmp 39), none, []⟩, ⟨some 41, .move (.tmp 11), none, []⟩, ⟨some 42, .un .neg (.tmp 41), none, []⟩, ⟨some 43, .iaddr 1 (.tmp 38) (.tmp 40), none, []⟩, ⟨none, .store 1 (.tmp 43) (.tmp 42), none, []⟩]) (.seq (.seq (.ops [⟨some 44, .load none (.tmp 4), none, []⟩, ⟨some 45, .call (.tmp 44) [], none, []⟩, ⟨some 8, .move (.tmp 45), none, []⟩]) (.seq (.ops [⟨some 46, .move (.tmp 8), none, []⟩]) (.cond (.tmp 46) (.exit 0) .skip))) (.seq (.ops [⟨some 47, .load none (.tmp 3), none, []⟩, ⟨some 48, .faddr 0 (.tmp 10), none, []⟩, ⟨some 49, .load none (.tmp 48), none, []⟩, ⟨some 50, .move (.tmp 11), none, []⟩, ⟨some 51, .iaddr 1 (.tmp 47) (.tmp 49), none, []⟩, ⟨none, .store 1 (.tmp 51) (.tmp 50), none, []⟩]) (.ops [⟨some 52, .move (.tmp 7), none, []⟩, ⟨some 53, .faddr 0 (.tmp 10), none, []⟩, ⟨some 54, .load none (.tmp 53), none, []⟩, ⟨some 55, .bslice 1 [.tmp 54] false, none, []⟩, ⟨some 56, .bappend 1 8 (.tmp 52) (.tmp 55) false, none, []⟩, ⟨some 7, .move (.tmp 56), none, []⟩]))))))))) (.ops [⟨some 57, .bin .add .none (.tmp 28) (.lit (.int .i64 1)), none, []⟩, ⟨some 28, .move (.tmp 57), none, []⟩]))))))) (.seq (.seq (.ops [⟨some 58, .move (.tmp 8), none, []⟩, ⟨some 59, .un .not (.tmp 58), none, []⟩]) (.cond (.tmp 59) (.seq (.ops [⟨some 60, .move (.tmp 7), none, []⟩, ⟨some 61, .blen 1 (.tmp 60), none, []⟩, ⟨some 62, .move (.lit (.int .i64 0)), none, []⟩]) (.block 2 (.loop (.seq (.ops [⟨some 63, .bin .lss .none (.tmp 62) (.tmp 61), none, []⟩]) (.seq (.cond (.tmp 63) .skip (.exit 2)) (.seq (.block 3 (.seq (.ops [⟨some 64, .iaddr 1 (.tmp 60) (.tmp 62), none, []⟩, ⟨some 65, .load none (.tmp 64), none, []⟩, ⟨some 13, .move (.tmp 65), none, []⟩]) (.ops [⟨some 66, .load none (.tmp 3), none, []⟩, ⟨some 67, .move (.tmp 13), none, []⟩, ⟨some 68, .iaddr 1 (.tmp 66) (.tmp 67), none, []⟩, ⟨none, .store 1 (.tmp 68) (.lit (.int .i64 0)), none, []⟩]))) (.ops [⟨some 69, .bin .add .none (.tmp 62) (.lit (.int .i64 1)), none, []⟩, ⟨some 62, .move (.tmp 69), none, []⟩]))))))) .skip)) (.seq (.ops [⟨some 70, .move (.tmp 8), none, []⟩, ⟨some 5, .move (.tmp 70), none, []⟩]) .ret))))))))
set_option maxRecDepth 20000 in
set_option maxHeartbeats 1000000 in
theorem esc2_spec (V R L G H Z n : Nat) (gt : Tok) (g : List (List FLit)) (hg : ∀ l ∈ g, condB n (-1) l = true) (hgl : g.length ≤ 1048576) (hn : n ≤ 1048576) :
    ∀ (o : Nat) (S : Store) (w : List Int) (left : Int), EscE S V R L G H Z n gt g → w.length = n → Tri w → opens w = o → ((2 ^ o : Nat) : Int) ≤ left → left ≤ 9223372036854775807 →
      ACalls Tryz.prog 70 [.ptr L 0, .ptr G 0, .ptr H 0, .ptr V 0, .ptr Z 0] (upd S R L w left) (fun r σ' => ∃ b w' left', r = .bool b ∧ σ' = upd S R L w' left' ∧ SPost g w left b w' left') := by
  intro o
  induction o using Nat.strongRecOn with
  | ind o ih =>
  intro S w0 left0 e hw0 ht0 ho hl0 hl1
  have hp0 : 0 < 2 ^ o := Nat.pow_pos (by omega)
  have hp1 : 0 < 2 ^ opens w0 := Nat.pow_pos (by omega)
  have hinR : ∀ l ∈ g, ∀ x ∈ l, inR n x := fun l hl x hx => by have := (cond_apart (hg l hl)).1 x hx; exact ⟨by omega, this.2⟩
  have hlen : ∀ l ∈ g, l.length ≤ 1048577 := fun l hl => by
    rcases condB_len (hg l hl) with h | h
    · rw [h]; simp
    · omega
  refine ACalls.intro (rs := [(.tmp 5)]) (by kernel_rfl) { own := [], ghosts := [] } Tryz.func70 (c := Tryz.f70.body.getD .skip) (by kernel_rfl) (by decide) (by rw [show Tryz.f70.ntmps = 71 by kernel_rfl]; exact Nat.le_of_ble_eq_true rfl) (by kernel_rfl) ?_
  intro hσ hids
  rw [show comp Tryz.prog { own := [], ghosts := [] } (Tryz.f70.body.getD .skip) = c_esc2 by kernel_rfl, show Tryz.f70.ntmps = 71 by kernel_rfl]
  unfold c_esc2
  rw [upd_len] at hσ hids ⊢
  have iV := lt_of_get e.v
  have iH := lt_of_get e.h
  have iZ := lt_of_get e.z
  have gV := upd_get e.v e.rv e.lv
  have gV' := upd_get' e.v e.rv e.lv
  have gG := upd_get e.g e.rg e.lg
  have gH := upd_get e.h e.rh e.lh
  have gH' := upd_get' e.h e.rh e.lh
  have gZ' := upd_get' e.z e.rz e.lz
  have gR := upd_R e.r e.rl
  have gR' := upd_R' e.r e.rl
  have gL := upd_L (R := R) e.l
  have sL := @upd_setL S R L
  have sR' := @upd_setR' S R L e.r e.rl
  have hwl : IntKind.i64.wrap (left0 - 1) = left0 - 1 := wrap_ok (by omega)
  have hnl : ¬ (left0 - 1 < 0) := by omega
  simp only [go_sem, Int.reduceToNat, Int.reduceLE, Int.reduceLT, Nat.reduceBEq, Nat.reduceLT, Nat.reduceAdd, Nat.reduceLeDiff, gL, sL, hwl, hnl, gG]
  have hp := fun l (hl : l ∈ g) => esc21_spec V R H w0 l (upd S R L w0 (left0 - 1)) (by rw [hw0]; exact gV _ _) (gR _ _) (gH _ _) (by rw [hw0]; exact hinR l hl) ht0 (by have := hlen l hl; omega)
  refine (indexFuncC_spec (fun l : List FLit => .slice .unk (l.map encLit)) g 72 [.ptr H 0] (liveT w0) gt _ (by omega) hp).is ?_
  rcases idxFrom_some (liveT w0) g 0 (by omega) with ⟨h1, h2⟩ | ⟨i, h1, l, h2, h3⟩
  · rw [h1]
    simp only [go_sem, Int.reduceToNat, Int.reduceLE, Int.reduceLT, Nat.reduceBEq, Nat.reduceLT, Nat.reduceAdd, Nat.reduceLeDiff]
    refine ret_upd0 _ ⟨true, w0, left0 - 1, rfl, rfl, ht0, .refl _, by omega, by omega, fun _ l hl => ?_, by simp⟩ hσ
    have := h2 l hl
    simp only [liveT, Bool.not_eq_false', List.any_eq_true, decide_eq_true_eq] at this
    exact this
  · have hm := List.mem_of_getElem? h2
    have hll := hlen l hm
    have hi : i < g.length := lt_of_get h2
    have hni : ¬ ((i : Int) < 0) := by omega
    rw [h1, Int.zero_add]
    simp only [go_sem, Int.reduceToNat, Int.reduceLE, Int.reduceLT, Nat.reduceBEq, Nat.reduceLT, Nat.reduceAdd, Nat.reduceLeDiff, hni, gG, h2, encC]
    have sE := @upd_setE S R L
    have gE := @upd_end S R L
    have hgr : ∀ k : Nat, ∀ o ∈ [AObj.grow 1 k], IdsO (S.length + 1) o := fun k o ho => by simp at ho; subst ho; trivial
    refine wpc_while (α := Nat × List Int × List Int × Int) (fun q => [(7, .slice (.grow S.length) (q.2.1.map Ahl.encI)), (2, .ptr H 0), (3, .ptr V 0), (4, .ptr Z 0), (8, .bool false), (26, .slice .unk (l.map encLit)), (27, .int .i64 l.length), (28, .int .i64 q.1)])
      (fun q => upd S R L q.2.2.1 q.2.2.2 ++ [.grow 1 q.2.1.length]) (fun q => SLoop g l w0 left0 q.1 q.2.1 q.2.2.1 q.2.2.2) (fun q => l.length - q.1) (0, [], w0, left0 - 1) (.begin ht0) ?_ ?_
    · first | exact ghU_begin0 7 1 _ hσ | exact ghU_begin 7 1 _ hσ
    rintro ⟨j, set, w, left⟩ hJ K hK hE hR
    dsimp only at hJ ⊢
    have hwn : w.length = n := by rw [hJ.ext.1]; exact hw0
    by_cases hj : j < l.length
    · obtain ⟨x, hxj⟩ := get_ex hj; have hltj : ((j : Int) < (l.length : Int)) := (by omega); have hwj : IntKind.i64.wrap ((j : Int) + 1) = ((j + 1 : Nat) : Int) := (by rw [wrap_ok (by omega)]; omega)
      have hxr := hinR l hm x (List.mem_of_getElem? hxj)
      have hx1 : x.fact.toNat < n := by have := hxr.1; have := hxr.2; omega
      have hx2 : x.fact.toNat + 1 ≤ w.length := by omega
      have hx0 := hxr.1
      have hxr0 : inR w0.length x := by rw [hw0]; exact hxr
      have n1 : IntKind.i64.wrap (0 - 1) = -1 := by rw [wrap_ok (by omega)]; rfl
      have n2 : IntKind.i64.wrap (0 - -1) = 1 := by rw [wrap_ok (by omega)]; rfl
      simp only [go_sem, Int.reduceToNat, Int.reduceLE, Int.reduceLT, Nat.reduceBEq, Nat.reduceLT, Nat.reduceAdd, Nat.reduceLeDiff, hltj, hxj, encLit, gH', upd_len, upd_endk, upd_setEk]
      refine (esc1_spec V R w x _ (by rw [hwn]; exact gV' _ _ _) (gR' _ _ _) (by rw [hwn]; exact hxr) hJ.tri).is ?_
      by_cases hv : litV w x = 0
      · have hv' : (litV w x != 0) = false := by simpa using hv
        obtain ⟨a1, a2, a3, a4⟩ := hJ.ahead hxr0 hv (by rw [ho]; exact hl0)
        have hl0' : ((2 ^ opens w0 : Nat) : Int) ≤ left0 := by rw [ho]; exact hl0
        have hfnd := @SLoop.found g l w0 left0 j set w left hJ x hxr0 hv
        have hstp := @SLoop.step g l w0 left0 j set w left hJ x hxj hxr0 n (hg l hm) hv
        have hso : set.length ≤ n := by have := hJ.ops; have := opens_le w0; omega
        cases hng : x.neg
        · have hsg : sgn x = 1 := by simp [sgn, hng]
          rw [hsg] at a1 a2 a3 a4 hfnd hstp
          (try rw [Int.neg_neg] at a1 a2 a3 a4 hfnd hstp)
          have a2' := a2
          rw [ho] at a2'
          simp only [go_sem, Int.reduceToNat, Int.reduceLE, Int.reduceLT, Nat.reduceBEq, Nat.reduceLT, Nat.reduceAdd, Nat.reduceLeDiff, hv', hng, n1, n2, upd_len, upd_endk, upd_setEk, gV', gR', hx0, hx1, hx2, mset, sR', gZ']
          rw [upd_app e.r e.l]
          refine ACalls.mono (ih _ a2' _ _ left (e.app _) (by rw [a4]; exact hw0) a1 rfl a3 (by have := hJ.hi; omega)) ?_
          rintro _ _ ⟨b, w', left', rfl, rfl, hp⟩
          rw [← upd_app e.r e.l]
          cases b
          · have hb1 : bigLen (set.length + 1) 8 := big_ok (by omega) (by omega)
            have hw'l : x.fact.toNat + 1 ≤ w'.length := by rw [(hp.no rfl).1]; simp; omega
            simp only [go_sem, Int.reduceToNat, Int.reduceLE, Int.reduceLT, Nat.reduceBEq, Nat.reduceLT, Nat.reduceAdd, Nat.reduceLeDiff, gV', gR', hx0, hx1, hw'l, upd_len, upd_endk, upd_setEk, mset, sR', gE, sE, hb1]
            refine hK _ _ (j + 1, set ++ [x.fact], w'.set x.fact.toNat _, left') (hstp hp) (by simp only []; omega) ?_
            have hc : set.map Ahl.encI ++ [[AV.int .i64 x.fact]] = (set ++ [x.fact]).map Ahl.encI := by simp [Ahl.encI]
            have hcl : (set ++ [x.fact]).length = set.length + 1 := by simp
            (try dsimp only); simp only [hwj, hc, hcl]; exact ghU [.grow 1 (set.length + 1)] hσ (hgr _)
          · simp only [go_sem, Int.reduceToNat, Int.reduceLE, Int.reduceLT, Nat.reduceBEq, Nat.reduceLT, Nat.reduceAdd, Nat.reduceLeDiff, hE]
            exact ret_upd _ ⟨true, w', left', rfl, rfl, hfnd hp hl0'⟩ hσ
        · have hsg : sgn x = -1 := by simp [sgn, hng]
          rw [hsg] at a1 a2 a3 a4 hfnd hstp
          (try rw [Int.neg_neg] at a1 a2 a3 a4 hfnd hstp)
          have a2' := a2
          rw [ho] at a2'
          simp only [go_sem, Int.reduceToNat, Int.reduceLE, Int.reduceLT, Nat.reduceBEq, Nat.reduceLT, Nat.reduceAdd, Nat.reduceLeDiff, hv', hng, n1, n2, upd_len, upd_endk, upd_setEk, gV', gR', hx0, hx1, hx2, mset, sR', gZ']
          rw [upd_app e.r e.l]
          refine ACalls.mono (ih _ a2' _ _ left (e.app _) (by rw [a4]; exact hw0) a1 rfl a3 (by have := hJ.hi; omega)) ?_
          rintro _ _ ⟨b, w', left', rfl, rfl, hp⟩
          rw [← upd_app e.r e.l]
          cases b
          · have hb1 : bigLen (set.length + 1) 8 := big_ok (by omega) (by omega)
            have hw'l : x.fact.toNat + 1 ≤ w'.length := by rw [(hp.no rfl).1]; simp; omega
            simp only [go_sem, Int.reduceToNat, Int.reduceLE, Int.reduceLT, Nat.reduceBEq, Nat.reduceLT, Nat.reduceAdd, Nat.reduceLeDiff, gV', gR', hx0, hx1, hw'l, upd_len, upd_endk, upd_setEk, mset, sR', gE, sE, hb1]
            refine hK _ _ (j + 1, set ++ [x.fact], w'.set x.fact.toNat _, left') (hstp hp) (by simp only []; omega) ?_
            have hc : set.map Ahl.encI ++ [[AV.int .i64 x.fact]] = (set ++ [x.fact]).map Ahl.encI := by simp [Ahl.encI]
            have hcl : (set ++ [x.fact]).length = set.length + 1 := by simp
            (try dsimp only); simp only [hwj, hc, hcl]; exact ghU [.grow 1 (set.length + 1)] hσ (hgr _)
          · simp only [go_sem, Int.reduceToNat, Int.reduceLE, Int.reduceLT, Nat.reduceBEq, Nat.reduceLT, Nat.reduceAdd, Nat.reduceLeDiff, hE]
            exact ret_upd _ ⟨true, w', left', rfl, rfl, hfnd hp hl0'⟩ hσ
      · have hv' : (litV w x != 0) = true := by simpa using hv
        simp only [go_sem, Int.reduceToNat, Int.reduceLE, Int.reduceLT, Nat.reduceBEq, Nat.reduceLT, Nat.reduceAdd, Nat.reduceLeDiff, hv', encLit, upd_len, upd_endk, upd_setEk]
        refine hK _ _ (j + 1, set, w, left) (hJ.skip hxj hxr0 h3 hv) (by simp only []; omega) ?_
        (try dsimp only); (try simp only [hwj]); first | exact ghU [.grow 1 set.length] hσ (hgr _) | exact ghU0 [.grow 1 set.length] hσ (hgr _)
    · have hltj : ¬ ((j : Int) < (l.length : Int)) := by omega
      have hjl : j = l.length := by have := hJ.jl; omega
      subst hjl
      simp only [go_sem, Int.reduceToNat, Int.reduceLE, Int.reduceLT, Nat.reduceBEq, Nat.reduceLT, Nat.reduceAdd, Nat.reduceLeDiff, hltj, hE]
      refine wpc_while (α := Nat × List Int) (fun q => [(3, .ptr V 0), (8, .bool false), (60, .slice (.grow S.length) (set.map Ahl.encI)), (61, .int .i64 set.length), (62, .int .i64 q.1)])
        (fun q => upd S R L q.2 left ++ [.grow 1 set.length]) (fun q => q.1 ≤ set.length ∧ q.2.length = n ∧ resetW q.2 (set.drop q.1) = w0) (fun q => set.length - q.1) (0, w) ⟨Nat.zero_le _, hwn, hJ.reset⟩ ?_ ?_
      · first | exact ghU [.grow 1 set.length] hσ (hgr _) | exact ghU0 [.grow 1 set.length] hσ (hgr _)
      rintro ⟨k, w1⟩ ⟨hk1, hk2, hk3⟩ K2 hK2 hE2 hR2
      dsimp only at hk1 hk2 hk3 ⊢
      have hso : set.length ≤ n := by have := hJ.ops; have := opens_le w0; omega
      by_cases hk : k < set.length
      · obtain ⟨f, hxk⟩ := get_ex hk; have hltk : ((k : Int) < (set.length : Int)) := (by omega); have hwk : IntKind.i64.wrap ((k : Int) + 1) = ((k + 1 : Nat) : Int) := (by rw [wrap_ok (by omega)]; omega)
        obtain ⟨o1, o2, o3⟩ := hJ.old f (List.mem_of_getElem? hxk)
        rw [drop_cons hxk, resetW] at hk3
        have q1 : f.toNat < n := by omega
        have q2 : f.toNat + 1 ≤ w1.length := by omega
        simp only [go_sem, Int.reduceToNat, Int.reduceLE, Int.reduceLT, Nat.reduceBEq, Nat.reduceLT, Nat.reduceAdd, Nat.reduceLeDiff, hltk, hxk, Ahl.encI, gV', o1, q1, gR', q2, mset, sR']
        refine hK2 _ _ (k + 1, w1.set f.toNat 0) ⟨by simp only []; omega, by simpa using hk2, hk3⟩ (by simp only []; omega) ?_
        (try dsimp only); simp only [hwk]; first | exact ghU [.grow 1 set.length] hσ (hgr _) | exact ghU0 [.grow 1 set.length] hσ (hgr _)
      · have hltk : ¬ ((k : Int) < (set.length : Int)) := by omega
        rw [drop_len hk, resetW] at hk3
        subst hk3
        simp only [go_sem, Int.reduceToNat, Int.reduceLE, Int.reduceLT, Nat.reduceBEq, Nat.reduceLT, Nat.reduceAdd, Nat.reduceLeDiff, hltk, hE2]
        exact ret_upd _ ⟨false, w1, left, rfl, rfl, hJ.done hm ht0⟩ hσ
end Go.Proofs.YtbnhijapbnfohaaGreat
