/-
  No cell of these rows narrows 'for every input' (looked for: loops, veiled, ifaces, maps, wideKeys, modest, calm, conditions, laid).
  DERIVED. THE GIVEN ROWS OF THIS SEAT. 6 by the template 'for every input the law returns true; each argument reads behind the call as it read before'; 0 by the template 'total and deterministic' (their statements: YtaepmmdbhikjlaaTotals.lean).
  GIVEN WITH THE SEED: the statements are not yours to turn. If you find one false, say at which input.
  Laid BY PROGRAM, IN A SANDBOX (cutbox-rows.mjs): the forced cells as the released guide's own fill.sh prints them over the translation f779c50723dda88c… (all of the seat's roots in one cut). By AI agents, Wed Nov 11 2026. No macro, syntax, notation, axiom, sorry.
-/
import Derived.Test.YtaepmmdbhikjlaaChecked
import GoSem.Claim
import GoSem.ClaimJoined
import GoSem.ClaimMapViews
import Derived.JoinedTies
import Derived.KernelRfl
namespace Go.Proofs.Ytaepmmdbhikjlaa
/- THE CELL 'sum', in the pinned program and in every row, IS THE sha256 OF THE DUMP (.gsa) THAT YtaepmmdbhikjlaaProg.lean LOADS. Nothing in Lean hashes anything: it is a label: what it is worth is what the hold of that sum in a sandbox is worth. -/
noncomputable def Try.pinned : Pinned := { name := "ytaepmmdbhikjlaa", sum := "f779c50723dda88c91e8e32bb8d8666e6cb7bf8151deeab4bc583f1587c65ebf", checked := Try.checked }
namespace Rows
def none {H : Type} : Left H := { results := [], args := [] }

/-- 'plexuslaw01.FieldMatchesReference': WHATEVER THE INPUT: true; the input reads as it did. -/
def fieldMatchesReferenceSpec : ChangeSpec := { name := "fieldMatchesReference", fn := fun _ => fun
  | [d1, d2, d3] => { results := [.lit (.bool true)], args := [d1, d2, d3] }
  | _ => none }
def fieldMatchesReferenceRow : OpenClaim := { program := "ytaepmmdbhikjlaa", sum := "f779c50723dda88c91e8e32bb8d8666e6cb7bf8151deeab4bc583f1587c65ebf", func := "plexus/plexuslaw01.FieldMatchesReference", spec := "fieldMatchesReference", unfollowed := true, recurses := true, apart := false }
def FieldMatchesReferenceSaid : Prop := fieldMatchesReferenceRow.holds Try.pinned (OpenSpec.ofChange fieldMatchesReferenceSpec)

/-- ITS FALSE NEIGHBOUR: 'it returns false'. Refute it at one input. -/
def fieldMatchesReferenceWrong : ChangeSpec := { name := "fieldMatchesReference", fn := fun _ => fun
  | [d1, d2, d3] => { results := [.lit (.bool false)], args := [d1, d2, d3] }
  | _ => none }
def FieldMatchesReferenceWrongFalsely : Prop := fieldMatchesReferenceRow.holds Try.pinned (OpenSpec.ofChange fieldMatchesReferenceWrong)

/-- 'plexuslaw01.FieldAxioms': WHATEVER THE INPUT: true; the input reads as it did. -/
def fieldAxiomsSpec : ChangeSpec := { name := "fieldAxioms", fn := fun _ => fun
  | [d] => { results := [.lit (.bool true)], args := [d] }
  | _ => none }
def fieldAxiomsRow : OpenClaim := { program := "ytaepmmdbhikjlaa", sum := "f779c50723dda88c91e8e32bb8d8666e6cb7bf8151deeab4bc583f1587c65ebf", func := "plexus/plexuslaw01.FieldAxioms", spec := "fieldAxioms", unfollowed := true, recurses := true, apart := false }
def FieldAxiomsSaid : Prop := fieldAxiomsRow.holds Try.pinned (OpenSpec.ofChange fieldAxiomsSpec)

/-- ITS FALSE NEIGHBOUR: 'it returns false'. Refute it at one input. -/
def fieldAxiomsWrong : ChangeSpec := { name := "fieldAxioms", fn := fun _ => fun
  | [d] => { results := [.lit (.bool false)], args := [d] }
  | _ => none }
def FieldAxiomsWrongFalsely : Prop := fieldAxiomsRow.holds Try.pinned (OpenSpec.ofChange fieldAxiomsWrong)

/-- 'plexuslaw01.FieldPowers': WHATEVER THE INPUT: true; the input reads as it did. -/
def fieldPowersSpec : ChangeSpec := { name := "fieldPowers", fn := fun _ => fun
  | [d1, d2, d3] => { results := [.lit (.bool true)], args := [d1, d2, d3] }
  | _ => none }
def fieldPowersRow : OpenClaim := { program := "ytaepmmdbhikjlaa", sum := "f779c50723dda88c91e8e32bb8d8666e6cb7bf8151deeab4bc583f1587c65ebf", func := "plexus/plexuslaw01.FieldPowers", spec := "fieldPowers", unfollowed := true, recurses := true, apart := false }
def FieldPowersSaid : Prop := fieldPowersRow.holds Try.pinned (OpenSpec.ofChange fieldPowersSpec)

/-- ITS FALSE NEIGHBOUR: 'it returns false'. Refute it at one input. -/
def fieldPowersWrong : ChangeSpec := { name := "fieldPowers", fn := fun _ => fun
  | [d1, d2, d3] => { results := [.lit (.bool false)], args := [d1, d2, d3] }
  | _ => none }
def FieldPowersWrongFalsely : Prop := fieldPowersRow.holds Try.pinned (OpenSpec.ofChange fieldPowersWrong)

/-- 'plexuslaw01.FieldFrobenius': WHATEVER THE INPUT: true; the input reads as it did. -/
def fieldFrobeniusSpec : ChangeSpec := { name := "fieldFrobenius", fn := fun _ => fun
  | [d] => { results := [.lit (.bool true)], args := [d] }
  | _ => none }
def fieldFrobeniusRow : OpenClaim := { program := "ytaepmmdbhikjlaa", sum := "f779c50723dda88c91e8e32bb8d8666e6cb7bf8151deeab4bc583f1587c65ebf", func := "plexus/plexuslaw01.FieldFrobenius", spec := "fieldFrobenius", unfollowed := true, recurses := true, apart := false }
def FieldFrobeniusSaid : Prop := fieldFrobeniusRow.holds Try.pinned (OpenSpec.ofChange fieldFrobeniusSpec)

/-- ITS FALSE NEIGHBOUR: 'it returns false'. Refute it at one input. -/
def fieldFrobeniusWrong : ChangeSpec := { name := "fieldFrobenius", fn := fun _ => fun
  | [d] => { results := [.lit (.bool false)], args := [d] }
  | _ => none }
def FieldFrobeniusWrongFalsely : Prop := fieldFrobeniusRow.holds Try.pinned (OpenSpec.ofChange fieldFrobeniusWrong)

/-- 'plexuslaw01.FieldModulus': WHATEVER THE INPUT: true; the input reads as it did. -/
def fieldModulusSpec : ChangeSpec := { name := "fieldModulus", fn := fun _ => fun
  | [d] => { results := [.lit (.bool true)], args := [d] }
  | _ => none }
def fieldModulusRow : OpenClaim := { program := "ytaepmmdbhikjlaa", sum := "f779c50723dda88c91e8e32bb8d8666e6cb7bf8151deeab4bc583f1587c65ebf", func := "plexus/plexuslaw01.FieldModulus", spec := "fieldModulus", unfollowed := true, recurses := true, apart := false }
def FieldModulusSaid : Prop := fieldModulusRow.holds Try.pinned (OpenSpec.ofChange fieldModulusSpec)

/-- ITS FALSE NEIGHBOUR: 'it returns false'. Refute it at one input. -/
def fieldModulusWrong : ChangeSpec := { name := "fieldModulus", fn := fun _ => fun
  | [d] => { results := [.lit (.bool false)], args := [d] }
  | _ => none }
def FieldModulusWrongFalsely : Prop := fieldModulusRow.holds Try.pinned (OpenSpec.ofChange fieldModulusWrong)

/-- 'plexuslaw01.FieldRefuses': WHATEVER THE INPUT: true; the input reads as it did. -/
def fieldRefusesSpec : ChangeSpec := { name := "fieldRefuses", fn := fun _ => fun
  | [d1, d2, d3] => { results := [.lit (.bool true)], args := [d1, d2, d3] }
  | _ => none }
def fieldRefusesRow : OpenClaim := { program := "ytaepmmdbhikjlaa", sum := "f779c50723dda88c91e8e32bb8d8666e6cb7bf8151deeab4bc583f1587c65ebf", func := "plexus/plexuslaw01.FieldRefuses", spec := "fieldRefuses", unfollowed := true, recurses := true, apart := false }
def FieldRefusesSaid : Prop := fieldRefusesRow.holds Try.pinned (OpenSpec.ofChange fieldRefusesSpec)

/-- ITS FALSE NEIGHBOUR: 'it returns false'. Refute it at one input. -/
def fieldRefusesWrong : ChangeSpec := { name := "fieldRefuses", fn := fun _ => fun
  | [d1, d2, d3] => { results := [.lit (.bool false)], args := [d1, d2, d3] }
  | _ => none }
def FieldRefusesWrongFalsely : Prop := fieldRefusesRow.holds Try.pinned (OpenSpec.ofChange fieldRefusesWrong)

/- THE SECOND FORM. 'bulk': how many values and letters a reading holds, each counted each time it is reached (what is shared counts as often as it is met; a slice's spare places count too). A statement '..UptoSaid' is the law's where the arguments, and the package variables that the reading takes, are together of bulk at most 1048576: NARROWER than '..Said'. Prove '..Said' where nothing that the law and all that it calls make is longer than what came in: it says more and counts as full. Else prove '..UptoSaid'. A law counts once. -/
mutual
def uptoBulk {H : Type} : DataW H → Nat
  | .lit (.string bytes) => bytes.length + 1
  | .lit _ => 1
  | .nil => 1
  | .ptr d => uptoBulk d + 1
  | .slice elems spare => uptoBulkAll elems + uptoBulkAll spare + 1
  | .agg parts => uptoBulkAll parts + 1
  | .iface _ d => uptoBulk d + 1
  | .map entries => uptoBulkEntries entries + 1
  | .held _ => 1
def uptoBulkAll {H : Type} : List (DataW H) → Nat
  | [] => 0
  | d :: r => uptoBulk d + uptoBulkAll r
def uptoBulkEntries {H : Type} : List (Lit × DataW H) → Nat
  | [] => 0
  | x :: r => uptoBulkEntry x + uptoBulkEntries r
def uptoBulkEntry {H : Type} : Lit × DataW H → Nat
  | (.string bytes, d) => bytes.length + uptoBulk d + 1
  | (_, d) => uptoBulk d + 1
 end
def uptoSmall : (H : Type) → List (DataW H) → Bool := fun _ ds => decide (uptoBulkAll ds ≤ 1048576)
def OpenSpec.upto (s : _root_.Go.ChangeSpec) : _root_.Go.OpenSpec := { _root_.Go.OpenSpec.ofChange s with cond := some uptoSmall }

/-- 'plexuslaw01.FieldMatchesReference', WHERE WHAT IT READS IS OF BULK AT MOST 1048576: true; the input reads as it did. -/
def fieldMatchesReferenceUptoRow : OpenClaim := { program := "ytaepmmdbhikjlaa", sum := "f779c50723dda88c91e8e32bb8d8666e6cb7bf8151deeab4bc583f1587c65ebf", func := "plexus/plexuslaw01.FieldMatchesReference", spec := "fieldMatchesReference", unfollowed := true, recurses := true, apart := false, narrowed := true }
def FieldMatchesReferenceUptoSaid : Prop := fieldMatchesReferenceUptoRow.holds Try.pinned (OpenSpec.upto fieldMatchesReferenceSpec)

/-- 'plexuslaw01.FieldAxioms', WHERE WHAT IT READS IS OF BULK AT MOST 1048576: true; the input reads as it did. -/
def fieldAxiomsUptoRow : OpenClaim := { program := "ytaepmmdbhikjlaa", sum := "f779c50723dda88c91e8e32bb8d8666e6cb7bf8151deeab4bc583f1587c65ebf", func := "plexus/plexuslaw01.FieldAxioms", spec := "fieldAxioms", unfollowed := true, recurses := true, apart := false, narrowed := true }
def FieldAxiomsUptoSaid : Prop := fieldAxiomsUptoRow.holds Try.pinned (OpenSpec.upto fieldAxiomsSpec)

/-- 'plexuslaw01.FieldPowers', WHERE WHAT IT READS IS OF BULK AT MOST 1048576: true; the input reads as it did. -/
def fieldPowersUptoRow : OpenClaim := { program := "ytaepmmdbhikjlaa", sum := "f779c50723dda88c91e8e32bb8d8666e6cb7bf8151deeab4bc583f1587c65ebf", func := "plexus/plexuslaw01.FieldPowers", spec := "fieldPowers", unfollowed := true, recurses := true, apart := false, narrowed := true }
def FieldPowersUptoSaid : Prop := fieldPowersUptoRow.holds Try.pinned (OpenSpec.upto fieldPowersSpec)

/-- 'plexuslaw01.FieldFrobenius', WHERE WHAT IT READS IS OF BULK AT MOST 1048576: true; the input reads as it did. -/
def fieldFrobeniusUptoRow : OpenClaim := { program := "ytaepmmdbhikjlaa", sum := "f779c50723dda88c91e8e32bb8d8666e6cb7bf8151deeab4bc583f1587c65ebf", func := "plexus/plexuslaw01.FieldFrobenius", spec := "fieldFrobenius", unfollowed := true, recurses := true, apart := false, narrowed := true }
def FieldFrobeniusUptoSaid : Prop := fieldFrobeniusUptoRow.holds Try.pinned (OpenSpec.upto fieldFrobeniusSpec)

/-- 'plexuslaw01.FieldModulus', WHERE WHAT IT READS IS OF BULK AT MOST 1048576: true; the input reads as it did. -/
def fieldModulusUptoRow : OpenClaim := { program := "ytaepmmdbhikjlaa", sum := "f779c50723dda88c91e8e32bb8d8666e6cb7bf8151deeab4bc583f1587c65ebf", func := "plexus/plexuslaw01.FieldModulus", spec := "fieldModulus", unfollowed := true, recurses := true, apart := false, narrowed := true }
def FieldModulusUptoSaid : Prop := fieldModulusUptoRow.holds Try.pinned (OpenSpec.upto fieldModulusSpec)

/-- 'plexuslaw01.FieldRefuses', WHERE WHAT IT READS IS OF BULK AT MOST 1048576: true; the input reads as it did. -/
def fieldRefusesUptoRow : OpenClaim := { program := "ytaepmmdbhikjlaa", sum := "f779c50723dda88c91e8e32bb8d8666e6cb7bf8151deeab4bc583f1587c65ebf", func := "plexus/plexuslaw01.FieldRefuses", spec := "fieldRefuses", unfollowed := true, recurses := true, apart := false, narrowed := true }
def FieldRefusesUptoSaid : Prop := fieldRefusesUptoRow.holds Try.pinned (OpenSpec.upto fieldRefusesSpec)

end Rows
end Go.Proofs.Ytaepmmdbhikjlaa
