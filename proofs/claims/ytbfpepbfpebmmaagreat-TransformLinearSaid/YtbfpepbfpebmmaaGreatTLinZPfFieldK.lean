/- Part of the proof: ZPfFieldK. -/
import Derived.Test.YtbfpepbfpebmmaaGreatTLinZPfFieldJ
set_option linter.all false
set_option maxRecDepth 100000
namespace Go.Sim.Pf
open Go Go.Proofs
def kMake0:KTab:=[([nv 0],.val (.tuple [.agg [nv 0,nv 0,.slice none 0 0].toArray,nv 1].toArray)),([nv 1],.val (.tuple [.agg [nv 0,nv 0,.slice none 0 0].toArray,nv 1].toArray)),([nv 2],.fld 2 1 1 1 0 (.cells [nv 0] 3 (some 1) false)),([nv 3],.fld 3 1 1 1 0 (.cells [nv 0] 3 (some 1) false)),([nv 4],.fld 2 2 2 2 0 (.cells [nv 1,nv 1] 3 (some 1) false)),([nv 5],.fld 5 1 1 1 0 (.cells [nv 0] 3 (some 1) false)),([nv 6],.val (.tuple [.agg [nv 0,nv 0,.slice none 0 0].toArray,nv 1].toArray)),([nv 7],.fld 7 1 1 1 0 (.cells [nv 0] 3 (some 1) false)),([nv 8],.fld 2 3 3 3 0 (.cells [nv 1,nv 1,nv 0] 3 (some 1) false)),([nv 9],.fld 3 2 2 2 0 (.cells [nv 1,nv 0] 3 (some 1) false)),([nv 10],.val (.tuple [.agg [nv 0,nv 0,.slice none 0 0].toArray,nv 1].toArray)),([nv 11],.fld 11 1 1 1 0 (.cells [nv 0] 3 (some 1) false)),([nv 12],.val (.tuple [.agg [nv 0,nv 0,.slice none 0 0].toArray,nv 1].toArray)),([nv 13],.fld 13 1 1 1 0 (.cells [nv 0] 3 (some 1) false)),([nv 14],.val (.tuple [.agg [nv 0,nv 0,.slice none 0 0].toArray,nv 1].toArray)),([nv 15],.val (.tuple [.agg [nv 0,nv 0,.slice none 0 0].toArray,nv 1].toArray)),([nv 16],.fld 2 4 4 4 0 (.cells [nv 1,nv 1,nv 0,nv 0] 3 (some 1) false)),([nv 17],.fld 17 1 1 1 0 (.cells [nv 0] 3 (some 1) false)),([nv 18],.val (.tuple [.agg [nv 0,nv 0,.slice none 0 0].toArray,nv 1].toArray)),([nv 19],.fld 19 1 1 1 0 (.cells [nv 0] 3 (some 1) false))]
theorem kMake0_run:kAll xfT (fun _ _ _=>none) 100 12 111 kMake0=true:=by kernel_rfl
theorem qgp:KTabOk Tryz.prog 111 kMake0:=KTabOk.of qbs xfT_ok noO kMake0_run
end Go.Sim.Pf
