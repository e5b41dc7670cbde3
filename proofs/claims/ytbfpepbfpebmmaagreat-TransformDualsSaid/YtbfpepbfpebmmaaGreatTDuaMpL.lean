/- Part of the proof: MpL. -/
import Derived.Test.YtbfpepbfpebmmaaGreatTDuaMpG
import Derived.Test.YtbfpepbfpebmmaaGreatTDuaZSpX5ToMpD
import Derived.Test.YtbfpepbfpebmmaaGreatTDuaMoAToZSpX3
set_option linter.all false
namespace Go.Sim
open Go Go.Proofs
namespace Pf
theorem pow_most {j:Nat} (hj:j<6):ordM j ^ qqw j≤256:=(by decide +kernel:∀ j,j<6→ordM j ^ qqw j≤256) j hj
end Pf
end Go.Sim
