/-
  No cell of these rows narrows 'for every input' (looked for: loops, veiled, ifaces, maps, wideKeys, modest, calm, conditions, laid).
  DERIVED. THE GIVEN ROWS OF THIS SEAT. 2 by the template 'for every input the law returns true; each argument reads behind the call as it read before'; 0 by the template 'total and deterministic' (their statements: YtbnhijapbnfohaaGreatTotals.lean).
  GIVEN WITH THE SEED: the statements are not yours to turn. If you find one false, say at which input.
  Laid BY PROGRAM, IN A SANDBOX (cutbox-rows.mjs): the forced cells as the released guide's own fill.sh prints them over the translation d498e77e404d85da… (all of the seat's roots in one cut). By AI agents, Wed Nov 11 2026. No macro, syntax, notation, axiom, sorry.
-/
import Derived.Test.YtbnhijapbnfohaaGreatChecked
import GoSem.Claim
import GoSem.ClaimJoined
import GoSem.ClaimMapViews
import Derived.JoinedTies
import Derived.KernelRfl
namespace Go.Proofs.YtbnhijapbnfohaaGreat
/- THE CELL 'sum', in the pinned program and in every row, IS THE sha256 OF THE DUMP (.gsa) THAT YtbnhijapbnfohaaGreatProg.lean LOADS. Nothing in Lean hashes anything: it is a label: what it is worth is what the hold of that sum in a sandbox is worth. -/
noncomputable def Tryz.pinned : Pinned := { name := "ytbnhijapbnfohaagreat", sum := "d498e77e404d85da5f12a1215a6377fc9d0ddff3d1fe4dbdbb2876030f110c2d", checked := Tryz.checked }
namespace Rows
def none {H : Type} : Left H := { results := [], args := [] }

/-- 'forethoughtlaw07.RegressForms': WHATEVER THE INPUT: true; the input reads as it did. -/
def regressFormsSpec : ChangeSpec := { name := "regressForms", fn := fun _ => fun
  | [d1, d2, d3] => { results := [.lit (.bool true)], args := [d1, d2, d3] }
  | _ => none }
def regressFormsRow : OpenClaim := { program := "ytbnhijapbnfohaagreat", sum := "d498e77e404d85da5f12a1215a6377fc9d0ddff3d1fe4dbdbb2876030f110c2d", func := "forethought/forethoughtlaw07.RegressForms", spec := "regressForms", inPlace := ["internal/bytealg.IndexByteString"], unfollowed := true, recurses := true, apart := false }
def RegressFormsSaid : Prop := regressFormsRow.holds Tryz.pinned (OpenSpec.ofChange regressFormsSpec)

/-- ITS FALSE NEIGHBOUR: 'it returns false'. Refute it at one input. -/
def regressFormsWrong : ChangeSpec := { name := "regressForms", fn := fun _ => fun
  | [d1, d2, d3] => { results := [.lit (.bool false)], args := [d1, d2, d3] }
  | _ => none }
def RegressFormsWrongFalsely : Prop := regressFormsRow.holds Tryz.pinned (OpenSpec.ofChange regressFormsWrong)

/-- 'forethoughtlaw07.RegressLaws': WHATEVER THE INPUT: true; the input reads as it did. -/
def regressLawsSpec : ChangeSpec := { name := "regressLaws", fn := fun _ => fun
  | [d1, d2, d3, d4, d5, d6] => { results := [.lit (.bool true)], args := [d1, d2, d3, d4, d5, d6] }
  | _ => none }
def regressLawsRow : OpenClaim := { program := "ytbnhijapbnfohaagreat", sum := "d498e77e404d85da5f12a1215a6377fc9d0ddff3d1fe4dbdbb2876030f110c2d", func := "forethought/forethoughtlaw07.RegressLaws", spec := "regressLaws", inPlace := ["internal/bytealg.IndexByteString"], unfollowed := true, recurses := true, apart := false }
def RegressLawsSaid : Prop := regressLawsRow.holds Tryz.pinned (OpenSpec.ofChange regressLawsSpec)

/-- ITS FALSE NEIGHBOUR: 'it returns false'. Refute it at one input. -/
def regressLawsWrong : ChangeSpec := { name := "regressLaws", fn := fun _ => fun
  | [d1, d2, d3, d4, d5, d6] => { results := [.lit (.bool false)], args := [d1, d2, d3, d4, d5, d6] }
  | _ => none }
def RegressLawsWrongFalsely : Prop := regressLawsRow.holds Tryz.pinned (OpenSpec.ofChange regressLawsWrong)

/- THE SECOND FORM. 'bulk': how many values and letters a reading holds, each counted each time it is reached (what is shared counts as often as it is met; a slice's spare places count too). A statement '..UptoSaid' is the law's where the arguments, and the package variables that the reading takes, are together of bulk at most 1048576: NARROWER than '..Said'. Prove '..Said' where nothing that the law and all that it calls make is longer than what came in: it says more and counts as full. Else prove '..UptoSaid'. A law counts once. -/
mutual
def uptoBulk {H : Type} : DataW H → Nat
  | .lit (.string bytes) => bytes.length + 1
  | .lit _ => 1
  | .nil => 1
  | .ptr d => uptoBulk d + 1
  | .slice elems spare => uptoBulkAll elems + uptoBulkAll spare + 1
  | .agg parts => uptoBulkAll parts + 1
  | .iface _ d => uptoBulk d + 1
  | .map entries => uptoBulkEntries entries + 1
  | .held _ => 1
def uptoBulkAll {H : Type} : List (DataW H) → Nat
  | [] => 0
  | d :: r => uptoBulk d + uptoBulkAll r
def uptoBulkEntries {H : Type} : List (Lit × DataW H) → Nat
  | [] => 0
  | x :: r => uptoBulkEntry x + uptoBulkEntries r
def uptoBulkEntry {H : Type} : Lit × DataW H → Nat
  | (.string bytes, d) => bytes.length + uptoBulk d + 1
  | (_, d) => uptoBulk d + 1
 end
def uptoSmall : (H : Type) → List (DataW H) → Bool := fun _ ds => decide (uptoBulkAll ds ≤ 1048576)
def OpenSpec.upto (s : _root_.Go.ChangeSpec) : _root_.Go.OpenSpec := { _root_.Go.OpenSpec.ofChange s with cond := some uptoSmall }

/-- 'forethoughtlaw07.RegressForms', WHERE WHAT IT READS IS OF BULK AT MOST 1048576: true; the input reads as it did. -/
def regressFormsUptoRow : OpenClaim := { program := "ytbnhijapbnfohaagreat", sum := "d498e77e404d85da5f12a1215a6377fc9d0ddff3d1fe4dbdbb2876030f110c2d", func := "forethought/forethoughtlaw07.RegressForms", spec := "regressForms", inPlace := ["internal/bytealg.IndexByteString"], unfollowed := true, recurses := true, apart := false, narrowed := true }
def RegressFormsUptoSaid : Prop := regressFormsUptoRow.holds Tryz.pinned (OpenSpec.upto regressFormsSpec)

/-- 'forethoughtlaw07.RegressLaws', WHERE WHAT IT READS IS OF BULK AT MOST 1048576: true; the input reads as it did. -/
def regressLawsUptoRow : OpenClaim := { program := "ytbnhijapbnfohaagreat", sum := "d498e77e404d85da5f12a1215a6377fc9d0ddff3d1fe4dbdbb2876030f110c2d", func := "forethought/forethoughtlaw07.RegressLaws", spec := "regressLaws", inPlace := ["internal/bytealg.IndexByteString"], unfollowed := true, recurses := true, apart := false, narrowed := true }
def RegressLawsUptoSaid : Prop := regressLawsUptoRow.holds Tryz.pinned (OpenSpec.upto regressLawsSpec)

end Rows
end Go.Proofs.YtbnhijapbnfohaaGreat
