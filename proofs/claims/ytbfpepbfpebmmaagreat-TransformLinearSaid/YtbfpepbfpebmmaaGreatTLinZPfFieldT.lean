/- Part of the proof: ZPfFieldT. -/
import Derived.Test.YtbfpepbfpebmmaaGreatTLinZPfFieldOToZPfFieldS
import Derived.KernelRfl
set_option linter.all false
namespace Go.Sim.Pf
theorem ft2:FT 2 1 [0] 1 [1]:={ p2:=by decide,e1:=by decide,e6:=by decide,len:=rfl,lt:=by decide,q:=by decide,gn:=by kernel_rfl,bs:=by kernel_rfl,ex:=by kernel_rfl }
theorem ft3:FT 3 1 [0] 2 [1,2]:={ p2:=by decide,e1:=by decide,e6:=by decide,len:=rfl,lt:=by decide,q:=by decide,gn:=by kernel_rfl,bs:=by kernel_rfl,ex:=by kernel_rfl }
theorem ft4:FT 2 2 [1,1] 2 [1,2,3]:={ p2:=by decide,e1:=by decide,e6:=by decide,len:=rfl,lt:=by decide,q:=by decide,gn:=by kernel_rfl,bs:=by kernel_rfl,ex:=by kernel_rfl }
theorem ft5:FT 5 1 [0] 2 [1,2,4,3]:={ p2:=by decide,e1:=by decide,e6:=by decide,len:=rfl,lt:=by decide,q:=by decide,gn:=by kernel_rfl,bs:=by kernel_rfl,ex:=by kernel_rfl }
theorem ft7:FT 7 1 [0] 3 [1,3,2,6,4,5]:={ p2:=by decide,e1:=by decide,e6:=by decide,len:=rfl,lt:=by decide,q:=by decide,gn:=by kernel_rfl,bs:=by kernel_rfl,ex:=by kernel_rfl }
theorem ft8:FT 2 3 [1,1,0] 2 [1,2,4,3,6,7,5]:={ p2:=by decide,e1:=by decide,e6:=by decide,len:=rfl,lt:=by decide,q:=by decide,gn:=by kernel_rfl,bs:=by kernel_rfl,ex:=by kernel_rfl }
end Go.Sim.Pf
