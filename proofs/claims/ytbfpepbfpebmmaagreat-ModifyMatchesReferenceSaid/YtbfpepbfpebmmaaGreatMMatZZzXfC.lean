/- Part of the proof: ZZzXfC. -/
import Derived.Test.YtbfpepbfpebmmaaGreatMMatShSToXfS
import Derived.Test.YtbfpepbfpebmmaaGreatMMatZShMixToZPfFieldI
import Derived.KernelRfl
set_option linter.all false
set_option maxRecDepth 100000
namespace Go.Sim
open Go Go.Proofs
def xf185:XF:=⟨13,[(.tmp 4)],(.seq (.reg [eS 0 2 (.box 31) [pT 0],eS 1 4 .mov [(.const (.slice none 0 0))]]) (.seq (.seq (.reg [eS 0 6 .mov [pT 1]]) (.block 0 (.range (.tmp 6) #[7] (.reg [eS 0 5 .mov [pT 7]]) (.block 1 (.reg [eS 0 8 (.ld none) [pT 2],eS 1 9 .mov [pT 5],eS 2 10 (.bsl [(nv 0)] 1 [(0,1)] 3) [pT 9],eS 3 11 (.app 3 1 8) [pT 8,pT 10],eN 4 (.st 1) [pT 2,pT 11]]))))) (.seq (.reg [eS 0 12 (.ld none) [pT 2],eS 1 4 .mov [pT 12]]) .ret)))⟩
theorem xf185_ok:qb8 Tryz.prog 185=some xf185:=by kernel_rfl
end Go.Sim
