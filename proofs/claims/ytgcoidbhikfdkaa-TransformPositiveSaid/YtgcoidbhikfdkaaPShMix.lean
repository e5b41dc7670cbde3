/- Part of the proof: ShMix. -/
import Derived.Test.YtgcoidbhikfdkaaProg
import Derived.KernelRfl
import Derived.Test.YtgcoidbhikfdkaaPShS
set_option linter.all false
namespace Go.Sim
open Go Go.Proofs
theorem mixed : Try.prog.follows .mixedOrders = true := by kernel_rfl
abbrev cG (g : Nat) (vs : List Value) (H : AH) [k : Kb (Value → AH → Prop)] : Prop := @callZ Try.prog (.func (.func g) #[] #[] :: vs) H k
end Go.Sim
