/- Part of the proof: MpE. -/
import Derived.Test.YtbfpepbfpebmmaaGreatMDisZSpX1ToMpD
import Derived.Test.YtbfpepbfpebmmaaGreatMDisMoO
set_option linter.all false
namespace Go.Sim.Pf
open Go Go.Proofs
theorem ordM_le {j:Nat} (h:j<6):ordM j≤8:=(by decide +kernel:∀ j,j<6→ordM j≤8) j h
end Go.Sim.Pf
namespace Go.Sim
open Go Go.Proofs
end Go.Sim
