/- Part of the proof: ZPfFieldT. -/
import Derived.Test.YtbfpepbfpebmmaaGreatMRepZPfFieldOToZPfFieldS
import Derived.KernelRfl
set_option linter.all false
namespace Go.Sim.Pf
theorem ft2:FT 2 1 [0] 1 [1]:={ p2:=by decide,e1:=by decide,e6:=by decide,len:=rfl,lt:=by decide,q:=by decide,gn:=by kernel_rfl,bs:=by kernel_rfl,ex:=by kernel_rfl }
theorem ft4:FT 2 2 [1,1] 2 [1,2,3]:={ p2:=by decide,e1:=by decide,e6:=by decide,len:=rfl,lt:=by decide,q:=by decide,gn:=by kernel_rfl,bs:=by kernel_rfl,ex:=by kernel_rfl }
end Go.Sim.Pf
