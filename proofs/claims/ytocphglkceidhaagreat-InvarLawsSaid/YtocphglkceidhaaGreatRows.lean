/-
  No cell of these rows narrows 'for every input' (looked for: loops, veiled, ifaces, maps, wideKeys, modest, calm, conditions, laid).
  DERIVED. THE GIVEN ROWS OF THIS SEAT. 5 by the template 'for every input the law returns true; each argument reads behind the call as it read before'; 0 by the template 'total and deterministic' (their statements: YtocphglkceidhaaGreatTotals.lean).
  GIVEN WITH THE SEED: the statements are not yours to turn. If you find one false, say at which input.
  Laid BY PROGRAM, IN A SANDBOX (cutbox-rows.mjs): the forced cells as the released guide's own fill.sh prints them over the translation 24d87738fdf2473b… (all of the seat's roots in one cut). By AI agents, Wed Nov 11 2026. No macro, syntax, notation, axiom, sorry.
-/
import Derived.Test.YtocphglkceidhaaGreatChecked
import GoSem.Claim
import GoSem.ClaimJoined
import GoSem.ClaimMapViews
import Derived.JoinedTies
import Derived.KernelRfl
namespace Go.Proofs.YtocphglkceidhaaGreat
/- THE CELL 'sum', in the pinned program and in every row, IS THE sha256 OF THE DUMP (.gsa) THAT YtocphglkceidhaaGreatProg.lean LOADS. Nothing in Lean hashes anything: it is a label: what it is worth is what the hold of that sum in a sandbox is worth. -/
noncomputable def Tryz.pinned : Pinned := { name := "ytocphglkceidhaagreat", sum := "24d87738fdf2473b5ceb3a349bb42a2deaf996812a2e5f99b998ffeab07d4948", checked := Tryz.checked }
namespace Rows
def none {H : Type} : Left H := { results := [], args := [] }

/-- 'forethoughtlaw08.InvarGroups': WHATEVER THE INPUT: true; the input reads as it did. -/
def invarGroupsSpec : ChangeSpec := { name := "invarGroups", fn := fun _ => fun
  | [d1, d2] => { results := [.lit (.bool true)], args := [d1, d2] }
  | _ => none }
def invarGroupsRow : OpenClaim := { program := "ytocphglkceidhaagreat", sum := "24d87738fdf2473b5ceb3a349bb42a2deaf996812a2e5f99b998ffeab07d4948", func := "forethought/forethoughtlaw08.InvarGroups", spec := "invarGroups", inPlace := ["internal/bytealg.IndexByteString"], unfollowed := true, recurses := true, apart := false }
def InvarGroupsSaid : Prop := invarGroupsRow.holds Tryz.pinned (OpenSpec.ofChange invarGroupsSpec)

/-- ITS FALSE NEIGHBOUR: 'it returns false'. Refute it at one input. -/
def invarGroupsWrong : ChangeSpec := { name := "invarGroups", fn := fun _ => fun
  | [d1, d2] => { results := [.lit (.bool false)], args := [d1, d2] }
  | _ => none }
def InvarGroupsWrongFalsely : Prop := invarGroupsRow.holds Tryz.pinned (OpenSpec.ofChange invarGroupsWrong)

/-- 'forethoughtlaw08.InvarLargest': WHATEVER THE INPUT: true; the input reads as it did. -/
def invarLargestSpec : ChangeSpec := { name := "invarLargest", fn := fun _ => fun
  | [d1, d2] => { results := [.lit (.bool true)], args := [d1, d2] }
  | _ => none }
def invarLargestRow : OpenClaim := { program := "ytocphglkceidhaagreat", sum := "24d87738fdf2473b5ceb3a349bb42a2deaf996812a2e5f99b998ffeab07d4948", func := "forethought/forethoughtlaw08.InvarLargest", spec := "invarLargest", inPlace := ["internal/bytealg.IndexByteString"], unfollowed := true, recurses := true, apart := false }
def InvarLargestSaid : Prop := invarLargestRow.holds Tryz.pinned (OpenSpec.ofChange invarLargestSpec)

/-- ITS FALSE NEIGHBOUR: 'it returns false'. Refute it at one input. -/
def invarLargestWrong : ChangeSpec := { name := "invarLargest", fn := fun _ => fun
  | [d1, d2] => { results := [.lit (.bool false)], args := [d1, d2] }
  | _ => none }
def InvarLargestWrongFalsely : Prop := invarLargestRow.holds Tryz.pinned (OpenSpec.ofChange invarLargestWrong)

/-- 'forethoughtlaw08.InvarOwn': WHATEVER THE INPUT: true; the input reads as it did. -/
def invarOwnSpec : ChangeSpec := { name := "invarOwn", fn := fun _ => fun
  | [d1, d2] => { results := [.lit (.bool true)], args := [d1, d2] }
  | _ => none }
def invarOwnRow : OpenClaim := { program := "ytocphglkceidhaagreat", sum := "24d87738fdf2473b5ceb3a349bb42a2deaf996812a2e5f99b998ffeab07d4948", func := "forethought/forethoughtlaw08.InvarOwn", spec := "invarOwn", inPlace := ["internal/bytealg.IndexByteString"], unfollowed := true, recurses := true, apart := false }
def InvarOwnSaid : Prop := invarOwnRow.holds Tryz.pinned (OpenSpec.ofChange invarOwnSpec)

/-- ITS FALSE NEIGHBOUR: 'it returns false'. Refute it at one input. -/
def invarOwnWrong : ChangeSpec := { name := "invarOwn", fn := fun _ => fun
  | [d1, d2] => { results := [.lit (.bool false)], args := [d1, d2] }
  | _ => none }
def InvarOwnWrongFalsely : Prop := invarOwnRow.holds Tryz.pinned (OpenSpec.ofChange invarOwnWrong)

/-- 'forethoughtlaw08.InvarChecks': WHATEVER THE INPUT: true; the input reads as it did. -/
def invarChecksSpec : ChangeSpec := { name := "invarChecks", fn := fun _ => fun
  | [d1, d2, d3, d4, d5] => { results := [.lit (.bool true)], args := [d1, d2, d3, d4, d5] }
  | _ => none }
def invarChecksRow : OpenClaim := { program := "ytocphglkceidhaagreat", sum := "24d87738fdf2473b5ceb3a349bb42a2deaf996812a2e5f99b998ffeab07d4948", func := "forethought/forethoughtlaw08.InvarChecks", spec := "invarChecks", inPlace := ["internal/bytealg.IndexByteString"], unfollowed := true, recurses := true, apart := false }
def InvarChecksSaid : Prop := invarChecksRow.holds Tryz.pinned (OpenSpec.ofChange invarChecksSpec)

/-- ITS FALSE NEIGHBOUR: 'it returns false'. Refute it at one input. -/
def invarChecksWrong : ChangeSpec := { name := "invarChecks", fn := fun _ => fun
  | [d1, d2, d3, d4, d5] => { results := [.lit (.bool false)], args := [d1, d2, d3, d4, d5] }
  | _ => none }
def InvarChecksWrongFalsely : Prop := invarChecksRow.holds Tryz.pinned (OpenSpec.ofChange invarChecksWrong)

/-- 'forethoughtlaw08.InvarLaws': WHATEVER THE INPUT: true; the input reads as it did. -/
def invarLawsSpec : ChangeSpec := { name := "invarLaws", fn := fun _ => fun
  | [d1, d2, d3, d4] => { results := [.lit (.bool true)], args := [d1, d2, d3, d4] }
  | _ => none }
def invarLawsRow : OpenClaim := { program := "ytocphglkceidhaagreat", sum := "24d87738fdf2473b5ceb3a349bb42a2deaf996812a2e5f99b998ffeab07d4948", func := "forethought/forethoughtlaw08.InvarLaws", spec := "invarLaws", inPlace := ["internal/bytealg.IndexByteString"], unfollowed := true, recurses := true, apart := false }
def InvarLawsSaid : Prop := invarLawsRow.holds Tryz.pinned (OpenSpec.ofChange invarLawsSpec)

/-- ITS FALSE NEIGHBOUR: 'it returns false'. Refute it at one input. -/
def invarLawsWrong : ChangeSpec := { name := "invarLaws", fn := fun _ => fun
  | [d1, d2, d3, d4] => { results := [.lit (.bool false)], args := [d1, d2, d3, d4] }
  | _ => none }
def InvarLawsWrongFalsely : Prop := invarLawsRow.holds Tryz.pinned (OpenSpec.ofChange invarLawsWrong)

/- THE SECOND FORM. 'bulk': how many values and letters a reading holds, each counted each time it is reached (what is shared counts as often as it is met; a slice's spare places count too). A statement '..UptoSaid' is the law's where the arguments, and the package variables that the reading takes, are together of bulk at most 1048576: NARROWER than '..Said'. Prove '..Said' where nothing that the law and all that it calls make is longer than what came in: it says more and counts as full. Else prove '..UptoSaid'. A law counts once. -/
mutual
def uptoBulk {H : Type} : DataW H → Nat
  | .lit (.string bytes) => bytes.length + 1
  | .lit _ => 1
  | .nil => 1
  | .ptr d => uptoBulk d + 1
  | .slice elems spare => uptoBulkAll elems + uptoBulkAll spare + 1
  | .agg parts => uptoBulkAll parts + 1
  | .iface _ d => uptoBulk d + 1
  | .map entries => uptoBulkEntries entries + 1
  | .held _ => 1
def uptoBulkAll {H : Type} : List (DataW H) → Nat
  | [] => 0
  | d :: r => uptoBulk d + uptoBulkAll r
def uptoBulkEntries {H : Type} : List (Lit × DataW H) → Nat
  | [] => 0
  | x :: r => uptoBulkEntry x + uptoBulkEntries r
def uptoBulkEntry {H : Type} : Lit × DataW H → Nat
  | (.string bytes, d) => bytes.length + uptoBulk d + 1
  | (_, d) => uptoBulk d + 1
 end
def uptoSmall : (H : Type) → List (DataW H) → Bool := fun _ ds => decide (uptoBulkAll ds ≤ 1048576)
def OpenSpec.upto (s : _root_.Go.ChangeSpec) : _root_.Go.OpenSpec := { _root_.Go.OpenSpec.ofChange s with cond := some uptoSmall }

/-- 'forethoughtlaw08.InvarGroups', WHERE WHAT IT READS IS OF BULK AT MOST 1048576: true; the input reads as it did. -/
def invarGroupsUptoRow : OpenClaim := { program := "ytocphglkceidhaagreat", sum := "24d87738fdf2473b5ceb3a349bb42a2deaf996812a2e5f99b998ffeab07d4948", func := "forethought/forethoughtlaw08.InvarGroups", spec := "invarGroups", inPlace := ["internal/bytealg.IndexByteString"], unfollowed := true, recurses := true, apart := false, narrowed := true }
def InvarGroupsUptoSaid : Prop := invarGroupsUptoRow.holds Tryz.pinned (OpenSpec.upto invarGroupsSpec)

/-- 'forethoughtlaw08.InvarLargest', WHERE WHAT IT READS IS OF BULK AT MOST 1048576: true; the input reads as it did. -/
def invarLargestUptoRow : OpenClaim := { program := "ytocphglkceidhaagreat", sum := "24d87738fdf2473b5ceb3a349bb42a2deaf996812a2e5f99b998ffeab07d4948", func := "forethought/forethoughtlaw08.InvarLargest", spec := "invarLargest", inPlace := ["internal/bytealg.IndexByteString"], unfollowed := true, recurses := true, apart := false, narrowed := true }
def InvarLargestUptoSaid : Prop := invarLargestUptoRow.holds Tryz.pinned (OpenSpec.upto invarLargestSpec)

/-- 'forethoughtlaw08.InvarOwn', WHERE WHAT IT READS IS OF BULK AT MOST 1048576: true; the input reads as it did. -/
def invarOwnUptoRow : OpenClaim := { program := "ytocphglkceidhaagreat", sum := "24d87738fdf2473b5ceb3a349bb42a2deaf996812a2e5f99b998ffeab07d4948", func := "forethought/forethoughtlaw08.InvarOwn", spec := "invarOwn", inPlace := ["internal/bytealg.IndexByteString"], unfollowed := true, recurses := true, apart := false, narrowed := true }
def InvarOwnUptoSaid : Prop := invarOwnUptoRow.holds Tryz.pinned (OpenSpec.upto invarOwnSpec)

/-- 'forethoughtlaw08.InvarChecks', WHERE WHAT IT READS IS OF BULK AT MOST 1048576: true; the input reads as it did. -/
def invarChecksUptoRow : OpenClaim := { program := "ytocphglkceidhaagreat", sum := "24d87738fdf2473b5ceb3a349bb42a2deaf996812a2e5f99b998ffeab07d4948", func := "forethought/forethoughtlaw08.InvarChecks", spec := "invarChecks", inPlace := ["internal/bytealg.IndexByteString"], unfollowed := true, recurses := true, apart := false, narrowed := true }
def InvarChecksUptoSaid : Prop := invarChecksUptoRow.holds Tryz.pinned (OpenSpec.upto invarChecksSpec)

/-- 'forethoughtlaw08.InvarLaws', WHERE WHAT IT READS IS OF BULK AT MOST 1048576: true; the input reads as it did. -/
def invarLawsUptoRow : OpenClaim := { program := "ytocphglkceidhaagreat", sum := "24d87738fdf2473b5ceb3a349bb42a2deaf996812a2e5f99b998ffeab07d4948", func := "forethought/forethoughtlaw08.InvarLaws", spec := "invarLaws", inPlace := ["internal/bytealg.IndexByteString"], unfollowed := true, recurses := true, apart := false, narrowed := true }
def InvarLawsUptoSaid : Prop := invarLawsUptoRow.holds Tryz.pinned (OpenSpec.upto invarLawsSpec)

end Rows
end Go.Proofs.YtocphglkceidhaaGreat
