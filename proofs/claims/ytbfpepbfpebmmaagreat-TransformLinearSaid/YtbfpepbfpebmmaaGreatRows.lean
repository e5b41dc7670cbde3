/-
  No cell of these rows narrows 'for every input' (looked for: loops, veiled, ifaces, maps, wideKeys, modest, calm, conditions, laid).
  DERIVED. THE GIVEN ROWS OF THIS SEAT. 8 by the template 'for every input the law returns true; each argument reads behind the call as it read before'; 0 by the template 'total and deterministic' (their statements: YtbfpepbfpebmmaaGreatTotals.lean).
  GIVEN WITH THE SEED: the statements are not yours to turn. If you find one false, say at which input.
  Laid BY PROGRAM, IN A SANDBOX (cutbox-rows.mjs): the forced cells as the released guide's own fill.sh prints them over the translation 664a2781fa0b5c7c… (all of the seat's roots in one cut). By AI agents, Wed Nov 11 2026. No macro, syntax, notation, axiom, sorry.
-/
import Derived.Test.YtbfpepbfpebmmaaGreatChecked
import GoSem.Claim
import GoSem.ClaimJoined
import GoSem.ClaimMapViews
import Derived.JoinedTies
import Derived.KernelRfl
namespace Go.Proofs.YtbfpepbfpebmmaaGreat
/- THE CELL 'sum', in the pinned program and in every row, IS THE sha256 OF THE DUMP (.gsa) THAT YtbfpepbfpebmmaaGreatProg.lean LOADS. Nothing in Lean hashes anything: it is a label: what it is worth is what the hold of that sum in a sandbox is worth. -/
noncomputable def Tryz.pinned : Pinned := { name := "ytbfpepbfpebmmaagreat", sum := "664a2781fa0b5c7ccde83e24da21258310df97ff4446a916ca11476b12e23cd5", checked := Tryz.checked }
namespace Rows
def none {H : Type} : Left H := { results := [], args := [] }

/-- 'plexuslaw14.ModifyMatchesReference': WHATEVER THE INPUT: true; the input reads as it did. -/
def modifyMatchesReferenceSpec : ChangeSpec := { name := "modifyMatchesReference", fn := fun _ => fun
  | [d1, d2, d3] => { results := [.lit (.bool true)], args := [d1, d2, d3] }
  | _ => none }
def modifyMatchesReferenceRow : OpenClaim := { program := "ytbfpepbfpebmmaagreat", sum := "664a2781fa0b5c7ccde83e24da21258310df97ff4446a916ca11476b12e23cd5", func := "plexus/plexuslaw14.ModifyMatchesReference", spec := "modifyMatchesReference", unfollowed := true, recurses := true, apart := false }
def ModifyMatchesReferenceSaid : Prop := modifyMatchesReferenceRow.holds Tryz.pinned (OpenSpec.ofChange modifyMatchesReferenceSpec)

/-- ITS FALSE NEIGHBOUR: 'it returns false'. Refute it at one input. -/
def modifyMatchesReferenceWrong : ChangeSpec := { name := "modifyMatchesReference", fn := fun _ => fun
  | [d1, d2, d3] => { results := [.lit (.bool false)], args := [d1, d2, d3] }
  | _ => none }
def ModifyMatchesReferenceWrongFalsely : Prop := modifyMatchesReferenceRow.holds Tryz.pinned (OpenSpec.ofChange modifyMatchesReferenceWrong)

/-- 'plexuslaw14.ModifyDistances': WHATEVER THE INPUT: true; the input reads as it did. -/
def modifyDistancesSpec : ChangeSpec := { name := "modifyDistances", fn := fun _ => fun
  | [d1, d2, d3] => { results := [.lit (.bool true)], args := [d1, d2, d3] }
  | _ => none }
def modifyDistancesRow : OpenClaim := { program := "ytbfpepbfpebmmaagreat", sum := "664a2781fa0b5c7ccde83e24da21258310df97ff4446a916ca11476b12e23cd5", func := "plexus/plexuslaw14.ModifyDistances", spec := "modifyDistances", unfollowed := true, recurses := true, apart := false }
def ModifyDistancesSaid : Prop := modifyDistancesRow.holds Tryz.pinned (OpenSpec.ofChange modifyDistancesSpec)

/-- ITS FALSE NEIGHBOUR: 'it returns false'. Refute it at one input. -/
def modifyDistancesWrong : ChangeSpec := { name := "modifyDistances", fn := fun _ => fun
  | [d1, d2, d3] => { results := [.lit (.bool false)], args := [d1, d2, d3] }
  | _ => none }
def ModifyDistancesWrongFalsely : Prop := modifyDistancesRow.holds Tryz.pinned (OpenSpec.ofChange modifyDistancesWrong)

/-- 'plexuslaw14.ModifyBack': WHATEVER THE INPUT: true; the input reads as it did. -/
def modifyBackSpec : ChangeSpec := { name := "modifyBack", fn := fun _ => fun
  | [d1, d2, d3] => { results := [.lit (.bool true)], args := [d1, d2, d3] }
  | _ => none }
def modifyBackRow : OpenClaim := { program := "ytbfpepbfpebmmaagreat", sum := "664a2781fa0b5c7ccde83e24da21258310df97ff4446a916ca11476b12e23cd5", func := "plexus/plexuslaw14.ModifyBack", spec := "modifyBack", unfollowed := true, recurses := true, apart := false }
def ModifyBackSaid : Prop := modifyBackRow.holds Tryz.pinned (OpenSpec.ofChange modifyBackSpec)

/-- ITS FALSE NEIGHBOUR: 'it returns false'. Refute it at one input. -/
def modifyBackWrong : ChangeSpec := { name := "modifyBack", fn := fun _ => fun
  | [d1, d2, d3] => { results := [.lit (.bool false)], args := [d1, d2, d3] }
  | _ => none }
def ModifyBackWrongFalsely : Prop := modifyBackRow.holds Tryz.pinned (OpenSpec.ofChange modifyBackWrong)

/-- 'plexuslaw14.ModifyDimensions': WHATEVER THE INPUT: true; the input reads as it did. -/
def modifyDimensionsSpec : ChangeSpec := { name := "modifyDimensions", fn := fun _ => fun
  | [d1, d2, d3] => { results := [.lit (.bool true)], args := [d1, d2, d3] }
  | _ => none }
def modifyDimensionsRow : OpenClaim := { program := "ytbfpepbfpebmmaagreat", sum := "664a2781fa0b5c7ccde83e24da21258310df97ff4446a916ca11476b12e23cd5", func := "plexus/plexuslaw14.ModifyDimensions", spec := "modifyDimensions", unfollowed := true, recurses := true, apart := false }
def ModifyDimensionsSaid : Prop := modifyDimensionsRow.holds Tryz.pinned (OpenSpec.ofChange modifyDimensionsSpec)

/-- ITS FALSE NEIGHBOUR: 'it returns false'. Refute it at one input. -/
def modifyDimensionsWrong : ChangeSpec := { name := "modifyDimensions", fn := fun _ => fun
  | [d1, d2, d3] => { results := [.lit (.bool false)], args := [d1, d2, d3] }
  | _ => none }
def ModifyDimensionsWrongFalsely : Prop := modifyDimensionsRow.holds Tryz.pinned (OpenSpec.ofChange modifyDimensionsWrong)

/-- 'plexuslaw14.ModifyReplaces': WHATEVER THE INPUT: true; the input reads as it did. -/
def modifyReplacesSpec : ChangeSpec := { name := "modifyReplaces", fn := fun _ => fun
  | [d1, d2] => { results := [.lit (.bool true)], args := [d1, d2] }
  | _ => none }
def modifyReplacesRow : OpenClaim := { program := "ytbfpepbfpebmmaagreat", sum := "664a2781fa0b5c7ccde83e24da21258310df97ff4446a916ca11476b12e23cd5", func := "plexus/plexuslaw14.ModifyReplaces", spec := "modifyReplaces", unfollowed := true, recurses := true, apart := false }
def ModifyReplacesSaid : Prop := modifyReplacesRow.holds Tryz.pinned (OpenSpec.ofChange modifyReplacesSpec)

/-- ITS FALSE NEIGHBOUR: 'it returns false'. Refute it at one input. -/
def modifyReplacesWrong : ChangeSpec := { name := "modifyReplaces", fn := fun _ => fun
  | [d1, d2] => { results := [.lit (.bool false)], args := [d1, d2] }
  | _ => none }
def ModifyReplacesWrongFalsely : Prop := modifyReplacesRow.holds Tryz.pinned (OpenSpec.ofChange modifyReplacesWrong)

/-- 'plexuslaw14.ModifyDuals': WHATEVER THE INPUT: true; the input reads as it did. -/
def modifyDualsSpec : ChangeSpec := { name := "modifyDuals", fn := fun _ => fun
  | [d1, d2, d3] => { results := [.lit (.bool true)], args := [d1, d2, d3] }
  | _ => none }
def modifyDualsRow : OpenClaim := { program := "ytbfpepbfpebmmaagreat", sum := "664a2781fa0b5c7ccde83e24da21258310df97ff4446a916ca11476b12e23cd5", func := "plexus/plexuslaw14.ModifyDuals", spec := "modifyDuals", unfollowed := true, recurses := true, apart := false }
def ModifyDualsSaid : Prop := modifyDualsRow.holds Tryz.pinned (OpenSpec.ofChange modifyDualsSpec)

/-- ITS FALSE NEIGHBOUR: 'it returns false'. Refute it at one input. -/
def modifyDualsWrong : ChangeSpec := { name := "modifyDuals", fn := fun _ => fun
  | [d1, d2, d3] => { results := [.lit (.bool false)], args := [d1, d2, d3] }
  | _ => none }
def ModifyDualsWrongFalsely : Prop := modifyDualsRow.holds Tryz.pinned (OpenSpec.ofChange modifyDualsWrong)

/-- 'plexuslaw15.TransformLinear': WHATEVER THE INPUT: true; the input reads as it did. -/
def transformLinearSpec : ChangeSpec := { name := "transformLinear", fn := fun _ => fun
  | [d] => { results := [.lit (.bool true)], args := [d] }
  | _ => none }
def transformLinearRow : OpenClaim := { program := "ytbfpepbfpebmmaagreat", sum := "664a2781fa0b5c7ccde83e24da21258310df97ff4446a916ca11476b12e23cd5", func := "plexus/plexuslaw15.TransformLinear", spec := "transformLinear", inPlace := ["math/bits.Add64", "math/bits.Sub64"], unfollowed := true, recurses := true, named := ["math/bits.divideError", "math/bits.overflowError"], apart := false }
def TransformLinearSaid : Prop := transformLinearRow.holds Tryz.pinned (OpenSpec.ofChange transformLinearSpec)

/-- ITS FALSE NEIGHBOUR: 'it returns false'. Refute it at one input. -/
def transformLinearWrong : ChangeSpec := { name := "transformLinear", fn := fun _ => fun
  | [d] => { results := [.lit (.bool false)], args := [d] }
  | _ => none }
def TransformLinearWrongFalsely : Prop := transformLinearRow.holds Tryz.pinned (OpenSpec.ofChange transformLinearWrong)

/-- 'plexuslaw15.TransformDuals': WHATEVER THE INPUT: true; the input reads as it did. -/
def transformDualsSpec : ChangeSpec := { name := "transformDuals", fn := fun _ => fun
  | [d] => { results := [.lit (.bool true)], args := [d] }
  | _ => none }
def transformDualsRow : OpenClaim := { program := "ytbfpepbfpebmmaagreat", sum := "664a2781fa0b5c7ccde83e24da21258310df97ff4446a916ca11476b12e23cd5", func := "plexus/plexuslaw15.TransformDuals", spec := "transformDuals", inPlace := ["math/bits.Add64", "math/bits.Sub64"], unfollowed := true, recurses := true, named := ["math/bits.divideError", "math/bits.overflowError"], apart := false }
def TransformDualsSaid : Prop := transformDualsRow.holds Tryz.pinned (OpenSpec.ofChange transformDualsSpec)

/-- ITS FALSE NEIGHBOUR: 'it returns false'. Refute it at one input. -/
def transformDualsWrong : ChangeSpec := { name := "transformDuals", fn := fun _ => fun
  | [d] => { results := [.lit (.bool false)], args := [d] }
  | _ => none }
def TransformDualsWrongFalsely : Prop := transformDualsRow.holds Tryz.pinned (OpenSpec.ofChange transformDualsWrong)

/- THE SECOND FORM. 'bulk': how many values and letters a reading holds, each counted each time it is reached (what is shared counts as often as it is met; a slice's spare places count too). A statement '..UptoSaid' is the law's where the arguments, and the package variables that the reading takes, are together of bulk at most 1048576: NARROWER than '..Said'. Prove '..Said' where nothing that the law and all that it calls make is longer than what came in: it says more and counts as full. Else prove '..UptoSaid'. A law counts once. -/
mutual
def uptoBulk {H : Type} : DataW H → Nat
  | .lit (.string bytes) => bytes.length + 1
  | .lit _ => 1
  | .nil => 1
  | .ptr d => uptoBulk d + 1
  | .slice elems spare => uptoBulkAll elems + uptoBulkAll spare + 1
  | .agg parts => uptoBulkAll parts + 1
  | .iface _ d => uptoBulk d + 1
  | .map entries => uptoBulkEntries entries + 1
  | .held _ => 1
def uptoBulkAll {H : Type} : List (DataW H) → Nat
  | [] => 0
  | d :: r => uptoBulk d + uptoBulkAll r
def uptoBulkEntries {H : Type} : List (Lit × DataW H) → Nat
  | [] => 0
  | x :: r => uptoBulkEntry x + uptoBulkEntries r
def uptoBulkEntry {H : Type} : Lit × DataW H → Nat
  | (.string bytes, d) => bytes.length + uptoBulk d + 1
  | (_, d) => uptoBulk d + 1
 end
def uptoSmall : (H : Type) → List (DataW H) → Bool := fun _ ds => decide (uptoBulkAll ds ≤ 1048576)
def OpenSpec.upto (s : _root_.Go.ChangeSpec) : _root_.Go.OpenSpec := { _root_.Go.OpenSpec.ofChange s with cond := some uptoSmall }

/-- 'plexuslaw14.ModifyMatchesReference', WHERE WHAT IT READS IS OF BULK AT MOST 1048576: true; the input reads as it did. -/
def modifyMatchesReferenceUptoRow : OpenClaim := { program := "ytbfpepbfpebmmaagreat", sum := "664a2781fa0b5c7ccde83e24da21258310df97ff4446a916ca11476b12e23cd5", func := "plexus/plexuslaw14.ModifyMatchesReference", spec := "modifyMatchesReference", unfollowed := true, recurses := true, apart := false, narrowed := true }
def ModifyMatchesReferenceUptoSaid : Prop := modifyMatchesReferenceUptoRow.holds Tryz.pinned (OpenSpec.upto modifyMatchesReferenceSpec)

/-- 'plexuslaw14.ModifyDistances', WHERE WHAT IT READS IS OF BULK AT MOST 1048576: true; the input reads as it did. -/
def modifyDistancesUptoRow : OpenClaim := { program := "ytbfpepbfpebmmaagreat", sum := "664a2781fa0b5c7ccde83e24da21258310df97ff4446a916ca11476b12e23cd5", func := "plexus/plexuslaw14.ModifyDistances", spec := "modifyDistances", unfollowed := true, recurses := true, apart := false, narrowed := true }
def ModifyDistancesUptoSaid : Prop := modifyDistancesUptoRow.holds Tryz.pinned (OpenSpec.upto modifyDistancesSpec)

/-- 'plexuslaw14.ModifyBack', WHERE WHAT IT READS IS OF BULK AT MOST 1048576: true; the input reads as it did. -/
def modifyBackUptoRow : OpenClaim := { program := "ytbfpepbfpebmmaagreat", sum := "664a2781fa0b5c7ccde83e24da21258310df97ff4446a916ca11476b12e23cd5", func := "plexus/plexuslaw14.ModifyBack", spec := "modifyBack", unfollowed := true, recurses := true, apart := false, narrowed := true }
def ModifyBackUptoSaid : Prop := modifyBackUptoRow.holds Tryz.pinned (OpenSpec.upto modifyBackSpec)

/-- 'plexuslaw14.ModifyDimensions', WHERE WHAT IT READS IS OF BULK AT MOST 1048576: true; the input reads as it did. -/
def modifyDimensionsUptoRow : OpenClaim := { program := "ytbfpepbfpebmmaagreat", sum := "664a2781fa0b5c7ccde83e24da21258310df97ff4446a916ca11476b12e23cd5", func := "plexus/plexuslaw14.ModifyDimensions", spec := "modifyDimensions", unfollowed := true, recurses := true, apart := false, narrowed := true }
def ModifyDimensionsUptoSaid : Prop := modifyDimensionsUptoRow.holds Tryz.pinned (OpenSpec.upto modifyDimensionsSpec)

/-- 'plexuslaw14.ModifyReplaces', WHERE WHAT IT READS IS OF BULK AT MOST 1048576: true; the input reads as it did. -/
def modifyReplacesUptoRow : OpenClaim := { program := "ytbfpepbfpebmmaagreat", sum := "664a2781fa0b5c7ccde83e24da21258310df97ff4446a916ca11476b12e23cd5", func := "plexus/plexuslaw14.ModifyReplaces", spec := "modifyReplaces", unfollowed := true, recurses := true, apart := false, narrowed := true }
def ModifyReplacesUptoSaid : Prop := modifyReplacesUptoRow.holds Tryz.pinned (OpenSpec.upto modifyReplacesSpec)

/-- 'plexuslaw14.ModifyDuals', WHERE WHAT IT READS IS OF BULK AT MOST 1048576: true; the input reads as it did. -/
def modifyDualsUptoRow : OpenClaim := { program := "ytbfpepbfpebmmaagreat", sum := "664a2781fa0b5c7ccde83e24da21258310df97ff4446a916ca11476b12e23cd5", func := "plexus/plexuslaw14.ModifyDuals", spec := "modifyDuals", unfollowed := true, recurses := true, apart := false, narrowed := true }
def ModifyDualsUptoSaid : Prop := modifyDualsUptoRow.holds Tryz.pinned (OpenSpec.upto modifyDualsSpec)

/-- 'plexuslaw15.TransformLinear', WHERE WHAT IT READS IS OF BULK AT MOST 1048576: true; the input reads as it did. -/
def transformLinearUptoRow : OpenClaim := { program := "ytbfpepbfpebmmaagreat", sum := "664a2781fa0b5c7ccde83e24da21258310df97ff4446a916ca11476b12e23cd5", func := "plexus/plexuslaw15.TransformLinear", spec := "transformLinear", inPlace := ["math/bits.Add64", "math/bits.Sub64"], unfollowed := true, recurses := true, named := ["math/bits.divideError", "math/bits.overflowError"], apart := false, narrowed := true }
def TransformLinearUptoSaid : Prop := transformLinearUptoRow.holds Tryz.pinned (OpenSpec.upto transformLinearSpec)

/-- 'plexuslaw15.TransformDuals', WHERE WHAT IT READS IS OF BULK AT MOST 1048576: true; the input reads as it did. -/
def transformDualsUptoRow : OpenClaim := { program := "ytbfpepbfpebmmaagreat", sum := "664a2781fa0b5c7ccde83e24da21258310df97ff4446a916ca11476b12e23cd5", func := "plexus/plexuslaw15.TransformDuals", spec := "transformDuals", inPlace := ["math/bits.Add64", "math/bits.Sub64"], unfollowed := true, recurses := true, named := ["math/bits.divideError", "math/bits.overflowError"], apart := false, narrowed := true }
def TransformDualsUptoSaid : Prop := transformDualsUptoRow.holds Tryz.pinned (OpenSpec.upto transformDualsSpec)

end Rows
end Go.Proofs.YtbfpepbfpebmmaaGreat
