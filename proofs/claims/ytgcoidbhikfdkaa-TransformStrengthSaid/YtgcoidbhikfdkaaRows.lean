/-
  No cell of these rows narrows 'for every input' (looked for: loops, veiled, ifaces, maps, wideKeys, modest, calm, conditions, laid).
  DERIVED. THE GIVEN ROWS OF THIS SEAT. 10 by the template 'for every input the law returns true; each argument reads behind the call as it read before'; 0 by the template 'total and deterministic' (their statements: YtgcoidbhikfdkaaTotals.lean).
  GIVEN WITH THE SEED: the statements are not yours to turn. If you find one false, say at which input.
  Laid BY PROGRAM, IN A SANDBOX (cutbox-rows.mjs): the forced cells as the released guide's own fill.sh prints them over the translation d3fa5ac5ac9b024c… (all of the seat's roots in one cut). By AI agents, Wed Nov 11 2026. No macro, syntax, notation, axiom, sorry.
-/
import Derived.Test.YtgcoidbhikfdkaaChecked
import GoSem.Claim
import GoSem.ClaimJoined
import GoSem.ClaimMapViews
import Derived.JoinedTies
import Derived.KernelRfl
namespace Go.Proofs.Ytgcoidbhikfdkaa
/- THE CELL 'sum', in the pinned program and in every row, IS THE sha256 OF THE DUMP (.gsa) THAT YtgcoidbhikfdkaaProg.lean LOADS. Nothing in Lean hashes anything: it is a label: what it is worth is what the hold of that sum in a sandbox is worth. -/
noncomputable def Try.pinned : Pinned := { name := "ytgcoidbhikfdkaa", sum := "d3fa5ac5ac9b024cf53bf5e325326e05f261928206cb29219214b4693b95bd83", checked := Try.checked }
namespace Rows
def none {H : Type} : Left H := { results := [], args := [] }

/-- 'plexuslaw15.TransformMatchesReference': WHATEVER THE INPUT: true; the input reads as it did. -/
def transformMatchesReferenceSpec : ChangeSpec := { name := "transformMatchesReference", fn := fun _ => fun
  | [d1, d2] => { results := [.lit (.bool true)], args := [d1, d2] }
  | _ => none }
def transformMatchesReferenceRow : OpenClaim := { program := "ytgcoidbhikfdkaa", sum := "d3fa5ac5ac9b024cf53bf5e325326e05f261928206cb29219214b4693b95bd83", func := "plexus/plexuslaw15.TransformMatchesReference", spec := "transformMatchesReference", inPlace := ["math/bits.Add64", "math/bits.Sub64"], unfollowed := true, recurses := true, named := ["math/bits.divideError", "math/bits.overflowError"], apart := false }
def TransformMatchesReferenceSaid : Prop := transformMatchesReferenceRow.holds Try.pinned (OpenSpec.ofChange transformMatchesReferenceSpec)

/-- ITS FALSE NEIGHBOUR: 'it returns false'. Refute it at one input. -/
def transformMatchesReferenceWrong : ChangeSpec := { name := "transformMatchesReference", fn := fun _ => fun
  | [d1, d2] => { results := [.lit (.bool false)], args := [d1, d2] }
  | _ => none }
def TransformMatchesReferenceWrongFalsely : Prop := transformMatchesReferenceRow.holds Try.pinned (OpenSpec.ofChange transformMatchesReferenceWrong)

/-- 'plexuslaw15.TransformOrthogonal': WHATEVER THE INPUT: true; the input reads as it did. -/
def transformOrthogonalSpec : ChangeSpec := { name := "transformOrthogonal", fn := fun _ => fun
  | [d] => { results := [.lit (.bool true)], args := [d] }
  | _ => none }
def transformOrthogonalRow : OpenClaim := { program := "ytgcoidbhikfdkaa", sum := "d3fa5ac5ac9b024cf53bf5e325326e05f261928206cb29219214b4693b95bd83", func := "plexus/plexuslaw15.TransformOrthogonal", spec := "transformOrthogonal", inPlace := ["math/bits.Add64", "math/bits.Sub64"], unfollowed := true, recurses := true, named := ["math/bits.divideError", "math/bits.overflowError"], apart := false }
def TransformOrthogonalSaid : Prop := transformOrthogonalRow.holds Try.pinned (OpenSpec.ofChange transformOrthogonalSpec)

/-- ITS FALSE NEIGHBOUR: 'it returns false'. Refute it at one input. -/
def transformOrthogonalWrong : ChangeSpec := { name := "transformOrthogonal", fn := fun _ => fun
  | [d] => { results := [.lit (.bool false)], args := [d] }
  | _ => none }
def TransformOrthogonalWrongFalsely : Prop := transformOrthogonalRow.holds Try.pinned (OpenSpec.ofChange transformOrthogonalWrong)

/-- 'plexuslaw15.TransformPositive': WHATEVER THE INPUT: true; the input reads as it did. -/
def transformPositiveSpec : ChangeSpec := { name := "transformPositive", fn := fun _ => fun
  | [d] => { results := [.lit (.bool true)], args := [d] }
  | _ => none }
def transformPositiveRow : OpenClaim := { program := "ytgcoidbhikfdkaa", sum := "d3fa5ac5ac9b024cf53bf5e325326e05f261928206cb29219214b4693b95bd83", func := "plexus/plexuslaw15.TransformPositive", spec := "transformPositive", inPlace := ["math/bits.Add64", "math/bits.Sub64"], unfollowed := true, recurses := true, named := ["math/bits.divideError", "math/bits.overflowError"], apart := false }
def TransformPositiveSaid : Prop := transformPositiveRow.holds Try.pinned (OpenSpec.ofChange transformPositiveSpec)

/-- ITS FALSE NEIGHBOUR: 'it returns false'. Refute it at one input. -/
def transformPositiveWrong : ChangeSpec := { name := "transformPositive", fn := fun _ => fun
  | [d] => { results := [.lit (.bool false)], args := [d] }
  | _ => none }
def TransformPositiveWrongFalsely : Prop := transformPositiveRow.holds Try.pinned (OpenSpec.ofChange transformPositiveWrong)

/-- 'plexuslaw15.TransformStrength': WHATEVER THE INPUT: true; the input reads as it did. -/
def transformStrengthSpec : ChangeSpec := { name := "transformStrength", fn := fun _ => fun
  | [d] => { results := [.lit (.bool true)], args := [d] }
  | _ => none }
def transformStrengthRow : OpenClaim := { program := "ytgcoidbhikfdkaa", sum := "d3fa5ac5ac9b024cf53bf5e325326e05f261928206cb29219214b4693b95bd83", func := "plexus/plexuslaw15.TransformStrength", spec := "transformStrength", inPlace := ["math/bits.Add64", "math/bits.Sub64"], unfollowed := true, recurses := true, named := ["math/bits.divideError", "math/bits.overflowError"], apart := false }
def TransformStrengthSaid : Prop := transformStrengthRow.holds Try.pinned (OpenSpec.ofChange transformStrengthSpec)

/-- ITS FALSE NEIGHBOUR: 'it returns false'. Refute it at one input. -/
def transformStrengthWrong : ChangeSpec := { name := "transformStrength", fn := fun _ => fun
  | [d] => { results := [.lit (.bool false)], args := [d] }
  | _ => none }
def TransformStrengthWrongFalsely : Prop := transformStrengthRow.holds Try.pinned (OpenSpec.ofChange transformStrengthWrong)

/-- 'plexuslaw05.SpaceMatchesReference': WHATEVER THE INPUT: true; the input reads as it did. -/
def spaceMatchesReferenceSpec : ChangeSpec := { name := "spaceMatchesReference", fn := fun _ => fun
  | [d1, d2, d3] => { results := [.lit (.bool true)], args := [d1, d2, d3] }
  | _ => none }
def spaceMatchesReferenceRow : OpenClaim := { program := "ytgcoidbhikfdkaa", sum := "d3fa5ac5ac9b024cf53bf5e325326e05f261928206cb29219214b4693b95bd83", func := "plexus/plexuslaw05.SpaceMatchesReference", spec := "spaceMatchesReference", unfollowed := true, recurses := true, apart := false }
def SpaceMatchesReferenceSaid : Prop := spaceMatchesReferenceRow.holds Try.pinned (OpenSpec.ofChange spaceMatchesReferenceSpec)

/-- ITS FALSE NEIGHBOUR: 'it returns false'. Refute it at one input. -/
def spaceMatchesReferenceWrong : ChangeSpec := { name := "spaceMatchesReference", fn := fun _ => fun
  | [d1, d2, d3] => { results := [.lit (.bool false)], args := [d1, d2, d3] }
  | _ => none }
def SpaceMatchesReferenceWrongFalsely : Prop := spaceMatchesReferenceRow.holds Try.pinned (OpenSpec.ofChange spaceMatchesReferenceWrong)

/-- 'plexuslaw05.SpaceEchelon': WHATEVER THE INPUT: true; the input reads as it did. -/
def spaceEchelonSpec : ChangeSpec := { name := "spaceEchelon", fn := fun _ => fun
  | [d1, d2] => { results := [.lit (.bool true)], args := [d1, d2] }
  | _ => none }
def spaceEchelonRow : OpenClaim := { program := "ytgcoidbhikfdkaa", sum := "d3fa5ac5ac9b024cf53bf5e325326e05f261928206cb29219214b4693b95bd83", func := "plexus/plexuslaw05.SpaceEchelon", spec := "spaceEchelon", unfollowed := true, recurses := true, apart := false }
def SpaceEchelonSaid : Prop := spaceEchelonRow.holds Try.pinned (OpenSpec.ofChange spaceEchelonSpec)

/-- ITS FALSE NEIGHBOUR: 'it returns false'. Refute it at one input. -/
def spaceEchelonWrong : ChangeSpec := { name := "spaceEchelon", fn := fun _ => fun
  | [d1, d2] => { results := [.lit (.bool false)], args := [d1, d2] }
  | _ => none }
def SpaceEchelonWrongFalsely : Prop := spaceEchelonRow.holds Try.pinned (OpenSpec.ofChange spaceEchelonWrong)

/-- 'plexuslaw05.SpaceKernels': WHATEVER THE INPUT: true; the input reads as it did. -/
def spaceKernelsSpec : ChangeSpec := { name := "spaceKernels", fn := fun _ => fun
  | [d1, d2] => { results := [.lit (.bool true)], args := [d1, d2] }
  | _ => none }
def spaceKernelsRow : OpenClaim := { program := "ytgcoidbhikfdkaa", sum := "d3fa5ac5ac9b024cf53bf5e325326e05f261928206cb29219214b4693b95bd83", func := "plexus/plexuslaw05.SpaceKernels", spec := "spaceKernels", unfollowed := true, recurses := true, apart := false }
def SpaceKernelsSaid : Prop := spaceKernelsRow.holds Try.pinned (OpenSpec.ofChange spaceKernelsSpec)

/-- ITS FALSE NEIGHBOUR: 'it returns false'. Refute it at one input. -/
def spaceKernelsWrong : ChangeSpec := { name := "spaceKernels", fn := fun _ => fun
  | [d1, d2] => { results := [.lit (.bool false)], args := [d1, d2] }
  | _ => none }
def SpaceKernelsWrongFalsely : Prop := spaceKernelsRow.holds Try.pinned (OpenSpec.ofChange spaceKernelsWrong)

/-- 'plexuslaw05.SpaceSolves': WHATEVER THE INPUT: true; the input reads as it did. -/
def spaceSolvesSpec : ChangeSpec := { name := "spaceSolves", fn := fun _ => fun
  | [d1, d2, d3] => { results := [.lit (.bool true)], args := [d1, d2, d3] }
  | _ => none }
def spaceSolvesRow : OpenClaim := { program := "ytgcoidbhikfdkaa", sum := "d3fa5ac5ac9b024cf53bf5e325326e05f261928206cb29219214b4693b95bd83", func := "plexus/plexuslaw05.SpaceSolves", spec := "spaceSolves", unfollowed := true, recurses := true, apart := false }
def SpaceSolvesSaid : Prop := spaceSolvesRow.holds Try.pinned (OpenSpec.ofChange spaceSolvesSpec)

/-- ITS FALSE NEIGHBOUR: 'it returns false'. Refute it at one input. -/
def spaceSolvesWrong : ChangeSpec := { name := "spaceSolves", fn := fun _ => fun
  | [d1, d2, d3] => { results := [.lit (.bool false)], args := [d1, d2, d3] }
  | _ => none }
def SpaceSolvesWrongFalsely : Prop := spaceSolvesRow.holds Try.pinned (OpenSpec.ofChange spaceSolvesWrong)

/-- 'plexuslaw05.SpaceLattice': WHATEVER THE INPUT: true; the input reads as it did. -/
def spaceLatticeSpec : ChangeSpec := { name := "spaceLattice", fn := fun _ => fun
  | [d1, d2, d3] => { results := [.lit (.bool true)], args := [d1, d2, d3] }
  | _ => none }
def spaceLatticeRow : OpenClaim := { program := "ytgcoidbhikfdkaa", sum := "d3fa5ac5ac9b024cf53bf5e325326e05f261928206cb29219214b4693b95bd83", func := "plexus/plexuslaw05.SpaceLattice", spec := "spaceLattice", unfollowed := true, recurses := true, apart := false }
def SpaceLatticeSaid : Prop := spaceLatticeRow.holds Try.pinned (OpenSpec.ofChange spaceLatticeSpec)

/-- ITS FALSE NEIGHBOUR: 'it returns false'. Refute it at one input. -/
def spaceLatticeWrong : ChangeSpec := { name := "spaceLattice", fn := fun _ => fun
  | [d1, d2, d3] => { results := [.lit (.bool false)], args := [d1, d2, d3] }
  | _ => none }
def SpaceLatticeWrongFalsely : Prop := spaceLatticeRow.holds Try.pinned (OpenSpec.ofChange spaceLatticeWrong)

/-- 'plexuslaw05.SpaceInverses': WHATEVER THE INPUT: true; the input reads as it did. -/
def spaceInversesSpec : ChangeSpec := { name := "spaceInverses", fn := fun _ => fun
  | [d1, d2, d3] => { results := [.lit (.bool true)], args := [d1, d2, d3] }
  | _ => none }
def spaceInversesRow : OpenClaim := { program := "ytgcoidbhikfdkaa", sum := "d3fa5ac5ac9b024cf53bf5e325326e05f261928206cb29219214b4693b95bd83", func := "plexus/plexuslaw05.SpaceInverses", spec := "spaceInverses", unfollowed := true, recurses := true, apart := false }
def SpaceInversesSaid : Prop := spaceInversesRow.holds Try.pinned (OpenSpec.ofChange spaceInversesSpec)

/-- ITS FALSE NEIGHBOUR: 'it returns false'. Refute it at one input. -/
def spaceInversesWrong : ChangeSpec := { name := "spaceInverses", fn := fun _ => fun
  | [d1, d2, d3] => { results := [.lit (.bool false)], args := [d1, d2, d3] }
  | _ => none }
def SpaceInversesWrongFalsely : Prop := spaceInversesRow.holds Try.pinned (OpenSpec.ofChange spaceInversesWrong)

/- THE SECOND FORM. 'bulk': how many values and letters a reading holds, each counted each time it is reached (what is shared counts as often as it is met; a slice's spare places count too). A statement '..UptoSaid' is the law's where the arguments, and the package variables that the reading takes, are together of bulk at most 1048576: NARROWER than '..Said'. Prove '..Said' where nothing that the law and all that it calls make is longer than what came in: it says more and counts as full. Else prove '..UptoSaid'. A law counts once. -/
mutual
def uptoBulk {H : Type} : DataW H → Nat
  | .lit (.string bytes) => bytes.length + 1
  | .lit _ => 1
  | .nil => 1
  | .ptr d => uptoBulk d + 1
  | .slice elems spare => uptoBulkAll elems + uptoBulkAll spare + 1
  | .agg parts => uptoBulkAll parts + 1
  | .iface _ d => uptoBulk d + 1
  | .map entries => uptoBulkEntries entries + 1
  | .held _ => 1
def uptoBulkAll {H : Type} : List (DataW H) → Nat
  | [] => 0
  | d :: r => uptoBulk d + uptoBulkAll r
def uptoBulkEntries {H : Type} : List (Lit × DataW H) → Nat
  | [] => 0
  | x :: r => uptoBulkEntry x + uptoBulkEntries r
def uptoBulkEntry {H : Type} : Lit × DataW H → Nat
  | (.string bytes, d) => bytes.length + uptoBulk d + 1
  | (_, d) => uptoBulk d + 1
 end
def uptoSmall : (H : Type) → List (DataW H) → Bool := fun _ ds => decide (uptoBulkAll ds ≤ 1048576)
def OpenSpec.upto (s : _root_.Go.ChangeSpec) : _root_.Go.OpenSpec := { _root_.Go.OpenSpec.ofChange s with cond := some uptoSmall }

/-- 'plexuslaw15.TransformMatchesReference', WHERE WHAT IT READS IS OF BULK AT MOST 1048576: true; the input reads as it did. -/
def transformMatchesReferenceUptoRow : OpenClaim := { program := "ytgcoidbhikfdkaa", sum := "d3fa5ac5ac9b024cf53bf5e325326e05f261928206cb29219214b4693b95bd83", func := "plexus/plexuslaw15.TransformMatchesReference", spec := "transformMatchesReference", inPlace := ["math/bits.Add64", "math/bits.Sub64"], unfollowed := true, recurses := true, named := ["math/bits.divideError", "math/bits.overflowError"], apart := false, narrowed := true }
def TransformMatchesReferenceUptoSaid : Prop := transformMatchesReferenceUptoRow.holds Try.pinned (OpenSpec.upto transformMatchesReferenceSpec)

/-- 'plexuslaw15.TransformOrthogonal', WHERE WHAT IT READS IS OF BULK AT MOST 1048576: true; the input reads as it did. -/
def transformOrthogonalUptoRow : OpenClaim := { program := "ytgcoidbhikfdkaa", sum := "d3fa5ac5ac9b024cf53bf5e325326e05f261928206cb29219214b4693b95bd83", func := "plexus/plexuslaw15.TransformOrthogonal", spec := "transformOrthogonal", inPlace := ["math/bits.Add64", "math/bits.Sub64"], unfollowed := true, recurses := true, named := ["math/bits.divideError", "math/bits.overflowError"], apart := false, narrowed := true }
def TransformOrthogonalUptoSaid : Prop := transformOrthogonalUptoRow.holds Try.pinned (OpenSpec.upto transformOrthogonalSpec)

/-- 'plexuslaw15.TransformPositive', WHERE WHAT IT READS IS OF BULK AT MOST 1048576: true; the input reads as it did. -/
def transformPositiveUptoRow : OpenClaim := { program := "ytgcoidbhikfdkaa", sum := "d3fa5ac5ac9b024cf53bf5e325326e05f261928206cb29219214b4693b95bd83", func := "plexus/plexuslaw15.TransformPositive", spec := "transformPositive", inPlace := ["math/bits.Add64", "math/bits.Sub64"], unfollowed := true, recurses := true, named := ["math/bits.divideError", "math/bits.overflowError"], apart := false, narrowed := true }
def TransformPositiveUptoSaid : Prop := transformPositiveUptoRow.holds Try.pinned (OpenSpec.upto transformPositiveSpec)

/-- 'plexuslaw15.TransformStrength', WHERE WHAT IT READS IS OF BULK AT MOST 1048576: true; the input reads as it did. -/
def transformStrengthUptoRow : OpenClaim := { program := "ytgcoidbhikfdkaa", sum := "d3fa5ac5ac9b024cf53bf5e325326e05f261928206cb29219214b4693b95bd83", func := "plexus/plexuslaw15.TransformStrength", spec := "transformStrength", inPlace := ["math/bits.Add64", "math/bits.Sub64"], unfollowed := true, recurses := true, named := ["math/bits.divideError", "math/bits.overflowError"], apart := false, narrowed := true }
def TransformStrengthUptoSaid : Prop := transformStrengthUptoRow.holds Try.pinned (OpenSpec.upto transformStrengthSpec)

/-- 'plexuslaw05.SpaceMatchesReference', WHERE WHAT IT READS IS OF BULK AT MOST 1048576: true; the input reads as it did. -/
def spaceMatchesReferenceUptoRow : OpenClaim := { program := "ytgcoidbhikfdkaa", sum := "d3fa5ac5ac9b024cf53bf5e325326e05f261928206cb29219214b4693b95bd83", func := "plexus/plexuslaw05.SpaceMatchesReference", spec := "spaceMatchesReference", unfollowed := true, recurses := true, apart := false, narrowed := true }
def SpaceMatchesReferenceUptoSaid : Prop := spaceMatchesReferenceUptoRow.holds Try.pinned (OpenSpec.upto spaceMatchesReferenceSpec)

/-- 'plexuslaw05.SpaceEchelon', WHERE WHAT IT READS IS OF BULK AT MOST 1048576: true; the input reads as it did. -/
def spaceEchelonUptoRow : OpenClaim := { program := "ytgcoidbhikfdkaa", sum := "d3fa5ac5ac9b024cf53bf5e325326e05f261928206cb29219214b4693b95bd83", func := "plexus/plexuslaw05.SpaceEchelon", spec := "spaceEchelon", unfollowed := true, recurses := true, apart := false, narrowed := true }
def SpaceEchelonUptoSaid : Prop := spaceEchelonUptoRow.holds Try.pinned (OpenSpec.upto spaceEchelonSpec)

/-- 'plexuslaw05.SpaceKernels', WHERE WHAT IT READS IS OF BULK AT MOST 1048576: true; the input reads as it did. -/
def spaceKernelsUptoRow : OpenClaim := { program := "ytgcoidbhikfdkaa", sum := "d3fa5ac5ac9b024cf53bf5e325326e05f261928206cb29219214b4693b95bd83", func := "plexus/plexuslaw05.SpaceKernels", spec := "spaceKernels", unfollowed := true, recurses := true, apart := false, narrowed := true }
def SpaceKernelsUptoSaid : Prop := spaceKernelsUptoRow.holds Try.pinned (OpenSpec.upto spaceKernelsSpec)

/-- 'plexuslaw05.SpaceSolves', WHERE WHAT IT READS IS OF BULK AT MOST 1048576: true; the input reads as it did. -/
def spaceSolvesUptoRow : OpenClaim := { program := "ytgcoidbhikfdkaa", sum := "d3fa5ac5ac9b024cf53bf5e325326e05f261928206cb29219214b4693b95bd83", func := "plexus/plexuslaw05.SpaceSolves", spec := "spaceSolves", unfollowed := true, recurses := true, apart := false, narrowed := true }
def SpaceSolvesUptoSaid : Prop := spaceSolvesUptoRow.holds Try.pinned (OpenSpec.upto spaceSolvesSpec)

/-- 'plexuslaw05.SpaceLattice', WHERE WHAT IT READS IS OF BULK AT MOST 1048576: true; the input reads as it did. -/
def spaceLatticeUptoRow : OpenClaim := { program := "ytgcoidbhikfdkaa", sum := "d3fa5ac5ac9b024cf53bf5e325326e05f261928206cb29219214b4693b95bd83", func := "plexus/plexuslaw05.SpaceLattice", spec := "spaceLattice", unfollowed := true, recurses := true, apart := false, narrowed := true }
def SpaceLatticeUptoSaid : Prop := spaceLatticeUptoRow.holds Try.pinned (OpenSpec.upto spaceLatticeSpec)

/-- 'plexuslaw05.SpaceInverses', WHERE WHAT IT READS IS OF BULK AT MOST 1048576: true; the input reads as it did. -/
def spaceInversesUptoRow : OpenClaim := { program := "ytgcoidbhikfdkaa", sum := "d3fa5ac5ac9b024cf53bf5e325326e05f261928206cb29219214b4693b95bd83", func := "plexus/plexuslaw05.SpaceInverses", spec := "spaceInverses", unfollowed := true, recurses := true, apart := false, narrowed := true }
def SpaceInversesUptoSaid : Prop := spaceInversesUptoRow.holds Try.pinned (OpenSpec.upto spaceInversesSpec)

end Rows
end Go.Proofs.Ytgcoidbhikfdkaa
