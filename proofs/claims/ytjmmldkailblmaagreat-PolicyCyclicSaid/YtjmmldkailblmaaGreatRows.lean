/-
  No cell of these rows narrows 'for every input' (looked for: loops, veiled, ifaces, maps, wideKeys, modest, calm, conditions, laid).
  DERIVED. THE GIVEN ROWS OF THIS SEAT. 5 by the template 'for every input the law returns true; each argument reads behind the call as it read before'; 0 by the template 'total and deterministic' (their statements: YtjmmldkailblmaaGreatTotals.lean).
  GIVEN WITH THE SEED: the statements are not yours to turn. If you find one false, say at which input.
  Laid BY PROGRAM, IN A SANDBOX (cutbox-rows.mjs): the forced cells as the released guide's own fill.sh prints them over the translation 19f661d3ea511545… (all of the seat's roots in one cut). By AI agents, Wed Nov 11 2026. No macro, syntax, notation, axiom, sorry.
-/
import Derived.Test.YtjmmldkailblmaaGreatChecked
import GoSem.Claim
import GoSem.ClaimJoined
import GoSem.ClaimMapViews
import Derived.JoinedTies
import Derived.KernelRfl
namespace Go.Proofs.YtjmmldkailblmaaGreat
/- THE CELL 'sum', in the pinned program and in every row, IS THE sha256 OF THE DUMP (.gsa) THAT YtjmmldkailblmaaGreatProg.lean LOADS. Nothing in Lean hashes anything: it is a label: what it is worth is what the hold of that sum in a sandbox is worth. -/
noncomputable def Tryz.pinned : Pinned := { name := "ytjmmldkailblmaagreat", sum := "19f661d3ea5115454991f0ea1445b9531e680db2b55c865c1bad516fb96604ad", checked := Tryz.checked }
namespace Rows
def none {H : Type} : Left H := { results := [], args := [] }

/-- 'forethoughtlaw16.PolicyKinds': WHATEVER THE INPUT: true; the input reads as it did. -/
def policyKindsSpec : ChangeSpec := { name := "policyKinds", fn := fun _ => fun
  | [d1, d2, d3] => { results := [.lit (.bool true)], args := [d1, d2, d3] }
  | _ => none }
def policyKindsRow : OpenClaim := { program := "ytjmmldkailblmaagreat", sum := "19f661d3ea5115454991f0ea1445b9531e680db2b55c865c1bad516fb96604ad", func := "forethought/forethoughtlaw16.PolicyKinds", spec := "policyKinds", inPlace := ["internal/bytealg.IndexByteString"], unfollowed := true, recurses := true, apart := false }
def PolicyKindsSaid : Prop := policyKindsRow.holds Tryz.pinned (OpenSpec.ofChange policyKindsSpec)

/-- ITS FALSE NEIGHBOUR: 'it returns false'. Refute it at one input. -/
def policyKindsWrong : ChangeSpec := { name := "policyKinds", fn := fun _ => fun
  | [d1, d2, d3] => { results := [.lit (.bool false)], args := [d1, d2, d3] }
  | _ => none }
def PolicyKindsWrongFalsely : Prop := policyKindsRow.holds Tryz.pinned (OpenSpec.ofChange policyKindsWrong)

/-- 'forethoughtlaw16.PolicyStrong': WHATEVER THE INPUT: true; the input reads as it did. -/
def policyStrongSpec : ChangeSpec := { name := "policyStrong", fn := fun _ => fun
  | [d1, d2, d3] => { results := [.lit (.bool true)], args := [d1, d2, d3] }
  | _ => none }
def policyStrongRow : OpenClaim := { program := "ytjmmldkailblmaagreat", sum := "19f661d3ea5115454991f0ea1445b9531e680db2b55c865c1bad516fb96604ad", func := "forethought/forethoughtlaw16.PolicyStrong", spec := "policyStrong", inPlace := ["internal/bytealg.IndexByteString"], unfollowed := true, recurses := true, apart := false }
def PolicyStrongSaid : Prop := policyStrongRow.holds Tryz.pinned (OpenSpec.ofChange policyStrongSpec)

/-- ITS FALSE NEIGHBOUR: 'it returns false'. Refute it at one input. -/
def policyStrongWrong : ChangeSpec := { name := "policyStrong", fn := fun _ => fun
  | [d1, d2, d3] => { results := [.lit (.bool false)], args := [d1, d2, d3] }
  | _ => none }
def PolicyStrongWrongFalsely : Prop := policyStrongRow.holds Tryz.pinned (OpenSpec.ofChange policyStrongWrong)

/-- 'forethoughtlaw16.PolicyCyclic': WHATEVER THE INPUT: true; the input reads as it did. -/
def policyCyclicSpec : ChangeSpec := { name := "policyCyclic", fn := fun _ => fun
  | [d1, d2] => { results := [.lit (.bool true)], args := [d1, d2] }
  | _ => none }
def policyCyclicRow : OpenClaim := { program := "ytjmmldkailblmaagreat", sum := "19f661d3ea5115454991f0ea1445b9531e680db2b55c865c1bad516fb96604ad", func := "forethought/forethoughtlaw16.PolicyCyclic", spec := "policyCyclic", inPlace := ["internal/bytealg.IndexByteString"], unfollowed := true, recurses := true, apart := false }
def PolicyCyclicSaid : Prop := policyCyclicRow.holds Tryz.pinned (OpenSpec.ofChange policyCyclicSpec)

/-- ITS FALSE NEIGHBOUR: 'it returns false'. Refute it at one input. -/
def policyCyclicWrong : ChangeSpec := { name := "policyCyclic", fn := fun _ => fun
  | [d1, d2] => { results := [.lit (.bool false)], args := [d1, d2] }
  | _ => none }
def PolicyCyclicWrongFalsely : Prop := policyCyclicRow.holds Tryz.pinned (OpenSpec.ofChange policyCyclicWrong)

/-- 'forethoughtlaw16.PolicyOutcomes': WHATEVER THE INPUT: true; the input reads as it did. -/
def policyOutcomesSpec : ChangeSpec := { name := "policyOutcomes", fn := fun _ => fun
  | [d1, d2, d3, d4] => { results := [.lit (.bool true)], args := [d1, d2, d3, d4] }
  | _ => none }
def policyOutcomesRow : OpenClaim := { program := "ytjmmldkailblmaagreat", sum := "19f661d3ea5115454991f0ea1445b9531e680db2b55c865c1bad516fb96604ad", func := "forethought/forethoughtlaw16.PolicyOutcomes", spec := "policyOutcomes", inPlace := ["internal/bytealg.IndexByteString"], unfollowed := true, recurses := true, apart := false }
def PolicyOutcomesSaid : Prop := policyOutcomesRow.holds Tryz.pinned (OpenSpec.ofChange policyOutcomesSpec)

/-- ITS FALSE NEIGHBOUR: 'it returns false'. Refute it at one input. -/
def policyOutcomesWrong : ChangeSpec := { name := "policyOutcomes", fn := fun _ => fun
  | [d1, d2, d3, d4] => { results := [.lit (.bool false)], args := [d1, d2, d3, d4] }
  | _ => none }
def PolicyOutcomesWrongFalsely : Prop := policyOutcomesRow.holds Tryz.pinned (OpenSpec.ofChange policyOutcomesWrong)

/-- 'forethoughtlaw16.PolicyOwn': WHATEVER THE INPUT: true; the input reads as it did. -/
def policyOwnSpec : ChangeSpec := { name := "policyOwn", fn := fun _ => fun
  | [d1, d2, d3] => { results := [.lit (.bool true)], args := [d1, d2, d3] }
  | _ => none }
def policyOwnRow : OpenClaim := { program := "ytjmmldkailblmaagreat", sum := "19f661d3ea5115454991f0ea1445b9531e680db2b55c865c1bad516fb96604ad", func := "forethought/forethoughtlaw16.PolicyOwn", spec := "policyOwn", inPlace := ["internal/bytealg.IndexByteString"], unfollowed := true, recurses := true, apart := false }
def PolicyOwnSaid : Prop := policyOwnRow.holds Tryz.pinned (OpenSpec.ofChange policyOwnSpec)

/-- ITS FALSE NEIGHBOUR: 'it returns false'. Refute it at one input. -/
def policyOwnWrong : ChangeSpec := { name := "policyOwn", fn := fun _ => fun
  | [d1, d2, d3] => { results := [.lit (.bool false)], args := [d1, d2, d3] }
  | _ => none }
def PolicyOwnWrongFalsely : Prop := policyOwnRow.holds Tryz.pinned (OpenSpec.ofChange policyOwnWrong)

/- THE SECOND FORM. 'bulk': how many values and letters a reading holds, each counted each time it is reached (what is shared counts as often as it is met; a slice's spare places count too). A statement '..UptoSaid' is the law's where the arguments, and the package variables that the reading takes, are together of bulk at most 1048576: NARROWER than '..Said'. Prove '..Said' where nothing that the law and all that it calls make is longer than what came in: it says more and counts as full. Else prove '..UptoSaid'. A law counts once. -/
mutual
def uptoBulk {H : Type} : DataW H → Nat
  | .lit (.string bytes) => bytes.length + 1
  | .lit _ => 1
  | .nil => 1
  | .ptr d => uptoBulk d + 1
  | .slice elems spare => uptoBulkAll elems + uptoBulkAll spare + 1
  | .agg parts => uptoBulkAll parts + 1
  | .iface _ d => uptoBulk d + 1
  | .map entries => uptoBulkEntries entries + 1
  | .held _ => 1
def uptoBulkAll {H : Type} : List (DataW H) → Nat
  | [] => 0
  | d :: r => uptoBulk d + uptoBulkAll r
def uptoBulkEntries {H : Type} : List (Lit × DataW H) → Nat
  | [] => 0
  | x :: r => uptoBulkEntry x + uptoBulkEntries r
def uptoBulkEntry {H : Type} : Lit × DataW H → Nat
  | (.string bytes, d) => bytes.length + uptoBulk d + 1
  | (_, d) => uptoBulk d + 1
 end
def uptoSmall : (H : Type) → List (DataW H) → Bool := fun _ ds => decide (uptoBulkAll ds ≤ 1048576)
def OpenSpec.upto (s : _root_.Go.ChangeSpec) : _root_.Go.OpenSpec := { _root_.Go.OpenSpec.ofChange s with cond := some uptoSmall }

/-- 'forethoughtlaw16.PolicyKinds', WHERE WHAT IT READS IS OF BULK AT MOST 1048576: true; the input reads as it did. -/
def policyKindsUptoRow : OpenClaim := { program := "ytjmmldkailblmaagreat", sum := "19f661d3ea5115454991f0ea1445b9531e680db2b55c865c1bad516fb96604ad", func := "forethought/forethoughtlaw16.PolicyKinds", spec := "policyKinds", inPlace := ["internal/bytealg.IndexByteString"], unfollowed := true, recurses := true, apart := false, narrowed := true }
def PolicyKindsUptoSaid : Prop := policyKindsUptoRow.holds Tryz.pinned (OpenSpec.upto policyKindsSpec)

/-- 'forethoughtlaw16.PolicyStrong', WHERE WHAT IT READS IS OF BULK AT MOST 1048576: true; the input reads as it did. -/
def policyStrongUptoRow : OpenClaim := { program := "ytjmmldkailblmaagreat", sum := "19f661d3ea5115454991f0ea1445b9531e680db2b55c865c1bad516fb96604ad", func := "forethought/forethoughtlaw16.PolicyStrong", spec := "policyStrong", inPlace := ["internal/bytealg.IndexByteString"], unfollowed := true, recurses := true, apart := false, narrowed := true }
def PolicyStrongUptoSaid : Prop := policyStrongUptoRow.holds Tryz.pinned (OpenSpec.upto policyStrongSpec)

/-- 'forethoughtlaw16.PolicyCyclic', WHERE WHAT IT READS IS OF BULK AT MOST 1048576: true; the input reads as it did. -/
def policyCyclicUptoRow : OpenClaim := { program := "ytjmmldkailblmaagreat", sum := "19f661d3ea5115454991f0ea1445b9531e680db2b55c865c1bad516fb96604ad", func := "forethought/forethoughtlaw16.PolicyCyclic", spec := "policyCyclic", inPlace := ["internal/bytealg.IndexByteString"], unfollowed := true, recurses := true, apart := false, narrowed := true }
def PolicyCyclicUptoSaid : Prop := policyCyclicUptoRow.holds Tryz.pinned (OpenSpec.upto policyCyclicSpec)

/-- 'forethoughtlaw16.PolicyOutcomes', WHERE WHAT IT READS IS OF BULK AT MOST 1048576: true; the input reads as it did. -/
def policyOutcomesUptoRow : OpenClaim := { program := "ytjmmldkailblmaagreat", sum := "19f661d3ea5115454991f0ea1445b9531e680db2b55c865c1bad516fb96604ad", func := "forethought/forethoughtlaw16.PolicyOutcomes", spec := "policyOutcomes", inPlace := ["internal/bytealg.IndexByteString"], unfollowed := true, recurses := true, apart := false, narrowed := true }
def PolicyOutcomesUptoSaid : Prop := policyOutcomesUptoRow.holds Tryz.pinned (OpenSpec.upto policyOutcomesSpec)

/-- 'forethoughtlaw16.PolicyOwn', WHERE WHAT IT READS IS OF BULK AT MOST 1048576: true; the input reads as it did. -/
def policyOwnUptoRow : OpenClaim := { program := "ytjmmldkailblmaagreat", sum := "19f661d3ea5115454991f0ea1445b9531e680db2b55c865c1bad516fb96604ad", func := "forethought/forethoughtlaw16.PolicyOwn", spec := "policyOwn", inPlace := ["internal/bytealg.IndexByteString"], unfollowed := true, recurses := true, apart := false, narrowed := true }
def PolicyOwnUptoSaid : Prop := policyOwnUptoRow.holds Tryz.pinned (OpenSpec.upto policyOwnSpec)

end Rows
end Go.Proofs.YtjmmldkailblmaaGreat
