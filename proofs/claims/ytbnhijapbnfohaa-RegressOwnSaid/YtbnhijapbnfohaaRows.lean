/-
  No cell of these rows narrows 'for every input' (looked for: loops, veiled, ifaces, maps, wideKeys, modest, calm, conditions, laid).
  DERIVED. THE GIVEN ROWS OF THIS SEAT. 4 by the template 'for every input the law returns true; each argument reads behind the call as it read before'; 0 by the template 'total and deterministic' (their statements: YtbnhijapbnfohaaTotals.lean).
  GIVEN WITH THE SEED: the statements are not yours to turn. If you find one false, say at which input.
  Laid BY PROGRAM, IN A SANDBOX (cutbox-rows.mjs): the forced cells as the released guide's own fill.sh prints them over the translation 82d47878d8335798… (all of the seat's roots in one cut). By AI agents, Wed Nov 11 2026. No macro, syntax, notation, axiom, sorry.
-/
import Derived.Test.YtbnhijapbnfohaaChecked
import GoSem.Claim
import GoSem.ClaimJoined
import GoSem.ClaimMapViews
import Derived.JoinedTies
import Derived.KernelRfl
namespace Go.Proofs.Ytbnhijapbnfohaa
/- THE CELL 'sum', in the pinned program and in every row, IS THE sha256 OF THE DUMP (.gsa) THAT YtbnhijapbnfohaaProg.lean LOADS. Nothing in Lean hashes anything: it is a label: what it is worth is what the hold of that sum in a sandbox is worth. -/
noncomputable def Try.pinned : Pinned := { name := "ytbnhijapbnfohaa", sum := "82d47878d83357988bb7c203e810dbb455b4e9f9a970b0b84dac36f7bd534c2f", checked := Try.checked }
namespace Rows
def none {H : Type} : Left H := { results := [], args := [] }

/-- 'forethoughtlaw07.RegressImplies': WHATEVER THE INPUT: true; the input reads as it did. -/
def regressImpliesSpec : ChangeSpec := { name := "regressImplies", fn := fun _ => fun
  | [d1, d2, d3, d4] => { results := [.lit (.bool true)], args := [d1, d2, d3, d4] }
  | _ => none }
def regressImpliesRow : OpenClaim := { program := "ytbnhijapbnfohaa", sum := "82d47878d83357988bb7c203e810dbb455b4e9f9a970b0b84dac36f7bd534c2f", func := "forethought/forethoughtlaw07.RegressImplies", spec := "regressImplies", inPlace := ["internal/bytealg.IndexByteString"], unfollowed := true, recurses := true, apart := false }
def RegressImpliesSaid : Prop := regressImpliesRow.holds Try.pinned (OpenSpec.ofChange regressImpliesSpec)

/-- ITS FALSE NEIGHBOUR: 'it returns false'. Refute it at one input. -/
def regressImpliesWrong : ChangeSpec := { name := "regressImplies", fn := fun _ => fun
  | [d1, d2, d3, d4] => { results := [.lit (.bool false)], args := [d1, d2, d3, d4] }
  | _ => none }
def RegressImpliesWrongFalsely : Prop := regressImpliesRow.holds Try.pinned (OpenSpec.ofChange regressImpliesWrong)

/-- 'forethoughtlaw07.RegressActions': WHATEVER THE INPUT: true; the input reads as it did. -/
def regressActionsSpec : ChangeSpec := { name := "regressActions", fn := fun _ => fun
  | [d1, d2, d3, d4] => { results := [.lit (.bool true)], args := [d1, d2, d3, d4] }
  | _ => none }
def regressActionsRow : OpenClaim := { program := "ytbnhijapbnfohaa", sum := "82d47878d83357988bb7c203e810dbb455b4e9f9a970b0b84dac36f7bd534c2f", func := "forethought/forethoughtlaw07.RegressActions", spec := "regressActions", inPlace := ["internal/bytealg.IndexByteString"], unfollowed := true, recurses := true, apart := false }
def RegressActionsSaid : Prop := regressActionsRow.holds Try.pinned (OpenSpec.ofChange regressActionsSpec)

/-- ITS FALSE NEIGHBOUR: 'it returns false'. Refute it at one input. -/
def regressActionsWrong : ChangeSpec := { name := "regressActions", fn := fun _ => fun
  | [d1, d2, d3, d4] => { results := [.lit (.bool false)], args := [d1, d2, d3, d4] }
  | _ => none }
def RegressActionsWrongFalsely : Prop := regressActionsRow.holds Try.pinned (OpenSpec.ofChange regressActionsWrong)

/-- 'forethoughtlaw07.RegressOperations': WHATEVER THE INPUT: true; the input reads as it did. -/
def regressOperationsSpec : ChangeSpec := { name := "regressOperations", fn := fun _ => fun
  | [d1, d2, d3, d4] => { results := [.lit (.bool true)], args := [d1, d2, d3, d4] }
  | _ => none }
def regressOperationsRow : OpenClaim := { program := "ytbnhijapbnfohaa", sum := "82d47878d83357988bb7c203e810dbb455b4e9f9a970b0b84dac36f7bd534c2f", func := "forethought/forethoughtlaw07.RegressOperations", spec := "regressOperations", inPlace := ["internal/bytealg.IndexByteString"], unfollowed := true, recurses := true, apart := false }
def RegressOperationsSaid : Prop := regressOperationsRow.holds Try.pinned (OpenSpec.ofChange regressOperationsSpec)

/-- ITS FALSE NEIGHBOUR: 'it returns false'. Refute it at one input. -/
def regressOperationsWrong : ChangeSpec := { name := "regressOperations", fn := fun _ => fun
  | [d1, d2, d3, d4] => { results := [.lit (.bool false)], args := [d1, d2, d3, d4] }
  | _ => none }
def RegressOperationsWrongFalsely : Prop := regressOperationsRow.holds Try.pinned (OpenSpec.ofChange regressOperationsWrong)

/-- 'forethoughtlaw07.RegressOwn': WHATEVER THE INPUT: true; the input reads as it did. -/
def regressOwnSpec : ChangeSpec := { name := "regressOwn", fn := fun _ => fun
  | [d1, d2, d3, d4] => { results := [.lit (.bool true)], args := [d1, d2, d3, d4] }
  | _ => none }
def regressOwnRow : OpenClaim := { program := "ytbnhijapbnfohaa", sum := "82d47878d83357988bb7c203e810dbb455b4e9f9a970b0b84dac36f7bd534c2f", func := "forethought/forethoughtlaw07.RegressOwn", spec := "regressOwn", inPlace := ["internal/bytealg.IndexByteString"], unfollowed := true, recurses := true, apart := false }
def RegressOwnSaid : Prop := regressOwnRow.holds Try.pinned (OpenSpec.ofChange regressOwnSpec)

/-- ITS FALSE NEIGHBOUR: 'it returns false'. Refute it at one input. -/
def regressOwnWrong : ChangeSpec := { name := "regressOwn", fn := fun _ => fun
  | [d1, d2, d3, d4] => { results := [.lit (.bool false)], args := [d1, d2, d3, d4] }
  | _ => none }
def RegressOwnWrongFalsely : Prop := regressOwnRow.holds Try.pinned (OpenSpec.ofChange regressOwnWrong)

/- THE SECOND FORM. 'bulk': how many values and letters a reading holds, each counted each time it is reached (what is shared counts as often as it is met; a slice's spare places count too). A statement '..UptoSaid' is the law's where the arguments, and the package variables that the reading takes, are together of bulk at most 1048576: NARROWER than '..Said'. Prove '..Said' where nothing that the law and all that it calls make is longer than what came in: it says more and counts as full. Else prove '..UptoSaid'. A law counts once. -/
mutual
def uptoBulk {H : Type} : DataW H → Nat
  | .lit (.string bytes) => bytes.length + 1
  | .lit _ => 1
  | .nil => 1
  | .ptr d => uptoBulk d + 1
  | .slice elems spare => uptoBulkAll elems + uptoBulkAll spare + 1
  | .agg parts => uptoBulkAll parts + 1
  | .iface _ d => uptoBulk d + 1
  | .map entries => uptoBulkEntries entries + 1
  | .held _ => 1
def uptoBulkAll {H : Type} : List (DataW H) → Nat
  | [] => 0
  | d :: r => uptoBulk d + uptoBulkAll r
def uptoBulkEntries {H : Type} : List (Lit × DataW H) → Nat
  | [] => 0
  | x :: r => uptoBulkEntry x + uptoBulkEntries r
def uptoBulkEntry {H : Type} : Lit × DataW H → Nat
  | (.string bytes, d) => bytes.length + uptoBulk d + 1
  | (_, d) => uptoBulk d + 1
 end
def uptoSmall : (H : Type) → List (DataW H) → Bool := fun _ ds => decide (uptoBulkAll ds ≤ 1048576)
def OpenSpec.upto (s : _root_.Go.ChangeSpec) : _root_.Go.OpenSpec := { _root_.Go.OpenSpec.ofChange s with cond := some uptoSmall }

/-- 'forethoughtlaw07.RegressImplies', WHERE WHAT IT READS IS OF BULK AT MOST 1048576: true; the input reads as it did. -/
def regressImpliesUptoRow : OpenClaim := { program := "ytbnhijapbnfohaa", sum := "82d47878d83357988bb7c203e810dbb455b4e9f9a970b0b84dac36f7bd534c2f", func := "forethought/forethoughtlaw07.RegressImplies", spec := "regressImplies", inPlace := ["internal/bytealg.IndexByteString"], unfollowed := true, recurses := true, apart := false, narrowed := true }
def RegressImpliesUptoSaid : Prop := regressImpliesUptoRow.holds Try.pinned (OpenSpec.upto regressImpliesSpec)

/-- 'forethoughtlaw07.RegressActions', WHERE WHAT IT READS IS OF BULK AT MOST 1048576: true; the input reads as it did. -/
def regressActionsUptoRow : OpenClaim := { program := "ytbnhijapbnfohaa", sum := "82d47878d83357988bb7c203e810dbb455b4e9f9a970b0b84dac36f7bd534c2f", func := "forethought/forethoughtlaw07.RegressActions", spec := "regressActions", inPlace := ["internal/bytealg.IndexByteString"], unfollowed := true, recurses := true, apart := false, narrowed := true }
def RegressActionsUptoSaid : Prop := regressActionsUptoRow.holds Try.pinned (OpenSpec.upto regressActionsSpec)

/-- 'forethoughtlaw07.RegressOperations', WHERE WHAT IT READS IS OF BULK AT MOST 1048576: true; the input reads as it did. -/
def regressOperationsUptoRow : OpenClaim := { program := "ytbnhijapbnfohaa", sum := "82d47878d83357988bb7c203e810dbb455b4e9f9a970b0b84dac36f7bd534c2f", func := "forethought/forethoughtlaw07.RegressOperations", spec := "regressOperations", inPlace := ["internal/bytealg.IndexByteString"], unfollowed := true, recurses := true, apart := false, narrowed := true }
def RegressOperationsUptoSaid : Prop := regressOperationsUptoRow.holds Try.pinned (OpenSpec.upto regressOperationsSpec)

/-- 'forethoughtlaw07.RegressOwn', WHERE WHAT IT READS IS OF BULK AT MOST 1048576: true; the input reads as it did. -/
def regressOwnUptoRow : OpenClaim := { program := "ytbnhijapbnfohaa", sum := "82d47878d83357988bb7c203e810dbb455b4e9f9a970b0b84dac36f7bd534c2f", func := "forethought/forethoughtlaw07.RegressOwn", spec := "regressOwn", inPlace := ["internal/bytealg.IndexByteString"], unfollowed := true, recurses := true, apart := false, narrowed := true }
def RegressOwnUptoSaid : Prop := regressOwnUptoRow.holds Try.pinned (OpenSpec.upto regressOwnSpec)

end Rows
end Go.Proofs.Ytbnhijapbnfohaa
