/-
  No cell of these rows narrows 'for every input' (looked for: loops, veiled, ifaces, maps, wideKeys, modest, calm, conditions, laid).
  DERIVED. THE GIVEN ROWS OF THIS SEAT. 4 by the template 'for every input the law returns true; each argument reads behind the call as it read before'; 0 by the template 'total and deterministic' (their statements: YtcjgoomlaojljaaGreatTotals.lean).
  GIVEN WITH THE SEED: the statements are not yours to turn. If you find one false, say at which input.
  Laid BY PROGRAM, IN A SANDBOX (cutbox-rows.mjs): the forced cells as the released guide's own fill.sh prints them over the translation 2f9b2067a61fcca3… (all of the seat's roots in one cut). By AI agents, Wed Nov 11 2026. No macro, syntax, notation, axiom, sorry.
-/
import Derived.Test.YtcjgoomlaojljaaGreatChecked
import GoSem.Claim
import GoSem.ClaimJoined
import GoSem.ClaimMapViews
import Derived.JoinedTies
import Derived.KernelRfl
namespace Go.Proofs.YtcjgoomlaojljaaGreat
/- THE CELL 'sum', in the pinned program and in every row, IS THE sha256 OF THE DUMP (.gsa) THAT YtcjgoomlaojljaaGreatProg.lean LOADS. Nothing in Lean hashes anything: it is a label: what it is worth is what the hold of that sum in a sandbox is worth. -/
noncomputable def Tryz.pinned : Pinned := { name := "ytcjgoomlaojljaagreat", sum := "2f9b2067a61fcca3308a706db27cbb4baba19f2ab067e27b196db46611fd0745", checked := Tryz.checked }
namespace Rows
def none {H : Type} : Left H := { results := [], args := [] }

/-- 'forethoughtlaw17.BeliefForms': WHATEVER THE INPUT: true; the input reads as it did. -/
def beliefFormsSpec : ChangeSpec := { name := "beliefForms", fn := fun _ => fun
  | [d1, d2, d3, d4] => { results := [.lit (.bool true)], args := [d1, d2, d3, d4] }
  | _ => none }
def beliefFormsRow : OpenClaim := { program := "ytcjgoomlaojljaagreat", sum := "2f9b2067a61fcca3308a706db27cbb4baba19f2ab067e27b196db46611fd0745", func := "forethought/forethoughtlaw17.BeliefForms", spec := "beliefForms", inPlace := ["internal/bytealg.IndexByteString"], unfollowed := true, recurses := true, apart := false }
def BeliefFormsSaid : Prop := beliefFormsRow.holds Tryz.pinned (OpenSpec.ofChange beliefFormsSpec)

/-- ITS FALSE NEIGHBOUR: 'it returns false'. Refute it at one input. -/
def beliefFormsWrong : ChangeSpec := { name := "beliefForms", fn := fun _ => fun
  | [d1, d2, d3, d4] => { results := [.lit (.bool false)], args := [d1, d2, d3, d4] }
  | _ => none }
def BeliefFormsWrongFalsely : Prop := beliefFormsRow.holds Tryz.pinned (OpenSpec.ofChange beliefFormsWrong)

/-- 'forethoughtlaw17.BeliefApplies': WHATEVER THE INPUT: true; the input reads as it did. -/
def beliefAppliesSpec : ChangeSpec := { name := "beliefApplies", fn := fun _ => fun
  | [d1, d2, d3, d4, d5] => { results := [.lit (.bool true)], args := [d1, d2, d3, d4, d5] }
  | _ => none }
def beliefAppliesRow : OpenClaim := { program := "ytcjgoomlaojljaagreat", sum := "2f9b2067a61fcca3308a706db27cbb4baba19f2ab067e27b196db46611fd0745", func := "forethought/forethoughtlaw17.BeliefApplies", spec := "beliefApplies", inPlace := ["internal/bytealg.IndexByteString"], unfollowed := true, recurses := true, apart := false }
def BeliefAppliesSaid : Prop := beliefAppliesRow.holds Tryz.pinned (OpenSpec.ofChange beliefAppliesSpec)

/-- ITS FALSE NEIGHBOUR: 'it returns false'. Refute it at one input. -/
def beliefAppliesWrong : ChangeSpec := { name := "beliefApplies", fn := fun _ => fun
  | [d1, d2, d3, d4, d5] => { results := [.lit (.bool false)], args := [d1, d2, d3, d4, d5] }
  | _ => none }
def BeliefAppliesWrongFalsely : Prop := beliefAppliesRow.holds Tryz.pinned (OpenSpec.ofChange beliefAppliesWrong)

/-- 'forethoughtlaw17.BeliefFinds': WHATEVER THE INPUT: true; the input reads as it did. -/
def beliefFindsSpec : ChangeSpec := { name := "beliefFinds", fn := fun _ => fun
  | [d1, d2] => { results := [.lit (.bool true)], args := [d1, d2] }
  | _ => none }
def beliefFindsRow : OpenClaim := { program := "ytcjgoomlaojljaagreat", sum := "2f9b2067a61fcca3308a706db27cbb4baba19f2ab067e27b196db46611fd0745", func := "forethought/forethoughtlaw17.BeliefFinds", spec := "beliefFinds", inPlace := ["internal/bytealg.IndexByteString"], unfollowed := true, recurses := true, apart := false }
def BeliefFindsSaid : Prop := beliefFindsRow.holds Tryz.pinned (OpenSpec.ofChange beliefFindsSpec)

/-- ITS FALSE NEIGHBOUR: 'it returns false'. Refute it at one input. -/
def beliefFindsWrong : ChangeSpec := { name := "beliefFinds", fn := fun _ => fun
  | [d1, d2] => { results := [.lit (.bool false)], args := [d1, d2] }
  | _ => none }
def BeliefFindsWrongFalsely : Prop := beliefFindsRow.holds Tryz.pinned (OpenSpec.ofChange beliefFindsWrong)

/-- 'forethoughtlaw17.BeliefOwn': WHATEVER THE INPUT: true; the input reads as it did. -/
def beliefOwnSpec : ChangeSpec := { name := "beliefOwn", fn := fun _ => fun
  | [d1, d2] => { results := [.lit (.bool true)], args := [d1, d2] }
  | _ => none }
def beliefOwnRow : OpenClaim := { program := "ytcjgoomlaojljaagreat", sum := "2f9b2067a61fcca3308a706db27cbb4baba19f2ab067e27b196db46611fd0745", func := "forethought/forethoughtlaw17.BeliefOwn", spec := "beliefOwn", inPlace := ["internal/bytealg.IndexByteString"], unfollowed := true, recurses := true, apart := false }
def BeliefOwnSaid : Prop := beliefOwnRow.holds Tryz.pinned (OpenSpec.ofChange beliefOwnSpec)

/-- ITS FALSE NEIGHBOUR: 'it returns false'. Refute it at one input. -/
def beliefOwnWrong : ChangeSpec := { name := "beliefOwn", fn := fun _ => fun
  | [d1, d2] => { results := [.lit (.bool false)], args := [d1, d2] }
  | _ => none }
def BeliefOwnWrongFalsely : Prop := beliefOwnRow.holds Tryz.pinned (OpenSpec.ofChange beliefOwnWrong)

/- THE SECOND FORM. 'bulk': how many values and letters a reading holds, each counted each time it is reached (what is shared counts as often as it is met; a slice's spare places count too). A statement '..UptoSaid' is the law's where the arguments, and the package variables that the reading takes, are together of bulk at most 1048576: NARROWER than '..Said'. Prove '..Said' where nothing that the law and all that it calls make is longer than what came in: it says more and counts as full. Else prove '..UptoSaid'. A law counts once. -/
mutual
def uptoBulk {H : Type} : DataW H → Nat
  | .lit (.string bytes) => bytes.length + 1
  | .lit _ => 1
  | .nil => 1
  | .ptr d => uptoBulk d + 1
  | .slice elems spare => uptoBulkAll elems + uptoBulkAll spare + 1
  | .agg parts => uptoBulkAll parts + 1
  | .iface _ d => uptoBulk d + 1
  | .map entries => uptoBulkEntries entries + 1
  | .held _ => 1
def uptoBulkAll {H : Type} : List (DataW H) → Nat
  | [] => 0
  | d :: r => uptoBulk d + uptoBulkAll r
def uptoBulkEntries {H : Type} : List (Lit × DataW H) → Nat
  | [] => 0
  | x :: r => uptoBulkEntry x + uptoBulkEntries r
def uptoBulkEntry {H : Type} : Lit × DataW H → Nat
  | (.string bytes, d) => bytes.length + uptoBulk d + 1
  | (_, d) => uptoBulk d + 1
 end
def uptoSmall : (H : Type) → List (DataW H) → Bool := fun _ ds => decide (uptoBulkAll ds ≤ 1048576)
def OpenSpec.upto (s : _root_.Go.ChangeSpec) : _root_.Go.OpenSpec := { _root_.Go.OpenSpec.ofChange s with cond := some uptoSmall }

/-- 'forethoughtlaw17.BeliefForms', WHERE WHAT IT READS IS OF BULK AT MOST 1048576: true; the input reads as it did. -/
def beliefFormsUptoRow : OpenClaim := { program := "ytcjgoomlaojljaagreat", sum := "2f9b2067a61fcca3308a706db27cbb4baba19f2ab067e27b196db46611fd0745", func := "forethought/forethoughtlaw17.BeliefForms", spec := "beliefForms", inPlace := ["internal/bytealg.IndexByteString"], unfollowed := true, recurses := true, apart := false, narrowed := true }
def BeliefFormsUptoSaid : Prop := beliefFormsUptoRow.holds Tryz.pinned (OpenSpec.upto beliefFormsSpec)

/-- 'forethoughtlaw17.BeliefApplies', WHERE WHAT IT READS IS OF BULK AT MOST 1048576: true; the input reads as it did. -/
def beliefAppliesUptoRow : OpenClaim := { program := "ytcjgoomlaojljaagreat", sum := "2f9b2067a61fcca3308a706db27cbb4baba19f2ab067e27b196db46611fd0745", func := "forethought/forethoughtlaw17.BeliefApplies", spec := "beliefApplies", inPlace := ["internal/bytealg.IndexByteString"], unfollowed := true, recurses := true, apart := false, narrowed := true }
def BeliefAppliesUptoSaid : Prop := beliefAppliesUptoRow.holds Tryz.pinned (OpenSpec.upto beliefAppliesSpec)

/-- 'forethoughtlaw17.BeliefFinds', WHERE WHAT IT READS IS OF BULK AT MOST 1048576: true; the input reads as it did. -/
def beliefFindsUptoRow : OpenClaim := { program := "ytcjgoomlaojljaagreat", sum := "2f9b2067a61fcca3308a706db27cbb4baba19f2ab067e27b196db46611fd0745", func := "forethought/forethoughtlaw17.BeliefFinds", spec := "beliefFinds", inPlace := ["internal/bytealg.IndexByteString"], unfollowed := true, recurses := true, apart := false, narrowed := true }
def BeliefFindsUptoSaid : Prop := beliefFindsUptoRow.holds Tryz.pinned (OpenSpec.upto beliefFindsSpec)

/-- 'forethoughtlaw17.BeliefOwn', WHERE WHAT IT READS IS OF BULK AT MOST 1048576: true; the input reads as it did. -/
def beliefOwnUptoRow : OpenClaim := { program := "ytcjgoomlaojljaagreat", sum := "2f9b2067a61fcca3308a706db27cbb4baba19f2ab067e27b196db46611fd0745", func := "forethought/forethoughtlaw17.BeliefOwn", spec := "beliefOwn", inPlace := ["internal/bytealg.IndexByteString"], unfollowed := true, recurses := true, apart := false, narrowed := true }
def BeliefOwnUptoSaid : Prop := beliefOwnUptoRow.holds Tryz.pinned (OpenSpec.upto beliefOwnSpec)

end Rows
end Go.Proofs.YtcjgoomlaojljaaGreat
