/- Part of the proof: ZSpG1. -/
import Derived.Test.YtbfpepbfpebmmaaGreatTLinShSToXfS
import Derived.Test.YtbfpepbfpebmmaaGreatTLinSimX3ToShD
import Derived.Test.YtbfpepbfpebmmaaGreatTLinZShMixToZPfFieldI
import Derived.KernelRfl
set_option linter.all false
set_option maxRecDepth 100000
namespace Go.Sim
open Go Go.Proofs
local instance coZSpG1:Coe AH Value:=⟨fun H=>.pointer (some ⟨H.length,0,none⟩)⟩
def g146 (s0 f1:Value) (H:AH) (R:Value→AH→Prop):Prop:=
 @cG 148 [s0,f1] H ⟨fun v7 H1 =>
 @qbb (xbin .geq 0 v7 (nv 0)) ⟨fun v8 =>
 R v8 H1⟩⟩
theorem g146_of {s0 f1:Value} {H:AH} {R:Value→AH→Prop} (h:g146 s0 f1 H R):FN Tryz.prog 146 [s0,f1] H R:=
  FN.of_XM (ms:=[]) qbs (cast (by kernel_rfl) h)
def g148 (s0 f1:Value) (H:AH) (R:Value→AH→Prop):Prop:=
 @qbb (qbc .lenS [s0]) ⟨fun v7 =>
 @loopV1 (nv 0) H ⟨fun v8 H1 K1 =>
 @qbb (xbin .lss 0 v8 v7) ⟨fun v9 =>
 @qbq v9 ⟨fun q=>if q=true then @qbb (qbc (.ixS 1) [s0,v8]) ⟨fun v14 =>
 @qbb (qbh none H1 [v14]) ⟨fun v15 =>
 @qjc Tryz.prog [f1,v15] H1 ⟨fun v16 H2 =>
 @qbq v16 ⟨fun q=>if q=true then R v8 H2 else
 @qbb (xbin .add 0 v8 (nv 1)) ⟨fun v18 =>
 K1 v18 H2⟩⟩⟩⟩⟩ else
 R (.int .i64 (-1)) H1⟩⟩⟩⟩
theorem g148_of {s0 f1:Value} {H:AH} {R:Value→AH→Prop} (h:g148 s0 f1 H R):FN Tryz.prog 148 [s0,f1] H R:=
  FN.of_XM (ms:=[(3,[8])]) qbs (cast (by kernel_rfl) h)
end Go.Sim
