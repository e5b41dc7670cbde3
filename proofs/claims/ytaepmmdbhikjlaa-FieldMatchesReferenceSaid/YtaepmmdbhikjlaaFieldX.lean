/- Part of the proof: FieldX. -/
import Derived.Test.YtaepmmdbhikjlaaFieldAToFieldO
set_option maxRecDepth 100000
namespace Go.Sim
open Go Go.Proofs
theorem ex_run : kAll xfT oMul 100 12 9 [([], .val (.bool true))] = true := by kernel_rfl
theorem ex_ok : KTabOk Try.prog 9 [([], .val (.bool true))] := KTabOk.of mixed xfT_ok oMul_ok ex_run
end Go.Sim
