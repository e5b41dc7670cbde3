/- Part of the proof: FieldM. -/
import Derived.Test.YtaepmmdbhikjlaaFieldP
set_option maxRecDepth 100000
namespace Go.Sim
open Go Go.Proofs

def kMonic2_ : KTab := []
theorem kMonic2__ok : KTabOk Try.prog 60 kMonic2_ := by intro x hx; cases hx
def kMonic3_ : KTab := []
theorem kMonic3__ok : KTabOk Try.prog 60 kMonic3_ := by intro x hx; cases hx
def kMonic4_0 : KTab := [([nv 2, nv 0, nv 1], .row 2 2 (.cells [nv 0, nv 1] 3 (some 1) false)), ([nv 2, nv 1, nv 1], .row 2 2 (.cells [nv 1, nv 1] 3 (some 1) false))]
theorem kMonic4_0_run : kAll xfT (fun _ _ _ => none) 100 12 60 kMonic4_0 = true := by kernel_rfl
theorem kMonic4_0_ok : KTabOk Try.prog 60 kMonic4_0 := KTabOk.of mixed xfT_ok noO kMonic4_0_run
def kMonic4_ : KTab := kMonic4_0
theorem kMonic4__ok : KTabOk Try.prog 60 kMonic4_ := kMonic4_0_ok
def kMonic5_ : KTab := []
theorem kMonic5__ok : KTabOk Try.prog 60 kMonic5_ := by intro x hx; cases hx
def kMonic7_ : KTab := []
theorem kMonic7__ok : KTabOk Try.prog 60 kMonic7_ := by intro x hx; cases hx
def kMonic8_0 : KTab := [([nv 2, nv 0, nv 1], .row 2 2 (.cells [nv 0, nv 1] 3 (some 1) false)), ([nv 2, nv 1, nv 1], .row 2 2 (.cells [nv 1, nv 1] 3 (some 1) false)), ([nv 2, nv 0, nv 2], .row 3 3 (.cells [nv 0, nv 0, nv 1] 3 (some 1) false)), ([nv 2, nv 1, nv 2], .row 3 3 (.cells [nv 1, nv 0, nv 1] 3 (some 1) false)), ([nv 2, nv 2, nv 2], .row 3 3 (.cells [nv 0, nv 1, nv 1] 3 (some 1) false)), ([nv 2, nv 3, nv 2], .row 3 3 (.cells [nv 1, nv 1, nv 1] 3 (some 1) false))]
theorem kMonic8_0_run : kAll xfT (fun _ _ _ => none) 100 12 60 kMonic8_0 = true := by kernel_rfl
theorem kMonic8_0_ok : KTabOk Try.prog 60 kMonic8_0 := KTabOk.of mixed xfT_ok noO kMonic8_0_run
def kMonic8_ : KTab := kMonic8_0
theorem kMonic8__ok : KTabOk Try.prog 60 kMonic8_ := kMonic8_0_ok
def kMonic9_0 : KTab := [([nv 3, nv 0, nv 1], .row 2 2 (.cells [nv 0, nv 1] 3 (some 1) false)), ([nv 3, nv 1, nv 1], .row 2 2 (.cells [nv 1, nv 1] 3 (some 1) false)), ([nv 3, nv 2, nv 1], .row 2 2 (.cells [nv 2, nv 1] 3 (some 1) false))]
theorem kMonic9_0_run : kAll xfT (fun _ _ _ => none) 100 12 60 kMonic9_0 = true := by kernel_rfl
theorem kMonic9_0_ok : KTabOk Try.prog 60 kMonic9_0 := KTabOk.of mixed xfT_ok noO kMonic9_0_run
def kMonic9_ : KTab := kMonic9_0
theorem kMonic9__ok : KTabOk Try.prog 60 kMonic9_ := kMonic9_0_ok
def kMonic11_ : KTab := []
theorem kMonic11__ok : KTabOk Try.prog 60 kMonic11_ := by intro x hx; cases hx
def kMonic13_ : KTab := []
theorem kMonic13__ok : KTabOk Try.prog 60 kMonic13_ := by intro x hx; cases hx
def kMonic16_0 : KTab := [([nv 2, nv 0, nv 1], .row 2 2 (.cells [nv 0, nv 1] 3 (some 1) false)), ([nv 2, nv 1, nv 1], .row 2 2 (.cells [nv 1, nv 1] 3 (some 1) false)), ([nv 2, nv 0, nv 2], .row 3 3 (.cells [nv 0, nv 0, nv 1] 3 (some 1) false)), ([nv 2, nv 1, nv 2], .row 3 3 (.cells [nv 1, nv 0, nv 1] 3 (some 1) false)), ([nv 2, nv 2, nv 2], .row 3 3 (.cells [nv 0, nv 1, nv 1] 3 (some 1) false)), ([nv 2, nv 3, nv 2], .row 3 3 (.cells [nv 1, nv 1, nv 1] 3 (some 1) false)), ([nv 2, nv 0, nv 3], .row 4 4 (.cells [nv 0, nv 0, nv 0, nv 1] 3 (some 1) false)), ([nv 2, nv 1, nv 3], .row 4 4 (.cells [nv 1, nv 0, nv 0, nv 1] 3 (some 1) false)), ([nv 2, nv 2, nv 3], .row 4 4 (.cells [nv 0, nv 1, nv 0, nv 1] 3 (some 1) false)), ([nv 2, nv 3, nv 3], .row 4 4 (.cells [nv 1, nv 1, nv 0, nv 1] 3 (some 1) false)), ([nv 2, nv 4, nv 3], .row 4 4 (.cells [nv 0, nv 0, nv 1, nv 1] 3 (some 1) false)), ([nv 2, nv 5, nv 3], .row 4 4 (.cells [nv 1, nv 0, nv 1, nv 1] 3 (some 1) false)), ([nv 2, nv 6, nv 3], .row 4 4 (.cells [nv 0, nv 1, nv 1, nv 1] 3 (some 1) false)), ([nv 2, nv 7, nv 3], .row 4 4 (.cells [nv 1, nv 1, nv 1, nv 1] 3 (some 1) false))]
theorem kMonic16_0_run : kAll xfT (fun _ _ _ => none) 100 12 60 kMonic16_0 = true := by kernel_rfl
theorem kMonic16_0_ok : KTabOk Try.prog 60 kMonic16_0 := KTabOk.of mixed xfT_ok noO kMonic16_0_run
def kMonic16_ : KTab := kMonic16_0
theorem kMonic16__ok : KTabOk Try.prog 60 kMonic16_ := kMonic16_0_ok
def kMonic17_ : KTab := []
theorem kMonic17__ok : KTabOk Try.prog 60 kMonic17_ := by intro x hx; cases hx
def kMonic19_ : KTab := []
theorem kMonic19__ok : KTabOk Try.prog 60 kMonic19_ := by intro x hx; cases hx
def kMonic23_ : KTab := []
theorem kMonic23__ok : KTabOk Try.prog 60 kMonic23_ := by intro x hx; cases hx
def kMonic25_0 : KTab := [([nv 5, nv 0, nv 1], .row 2 2 (.cells [nv 0, nv 1] 3 (some 1) false)), ([nv 5, nv 1, nv 1], .row 2 2 (.cells [nv 1, nv 1] 3 (some 1) false)), ([nv 5, nv 2, nv 1], .row 2 2 (.cells [nv 2, nv 1] 3 (some 1) false)), ([nv 5, nv 3, nv 1], .row 2 2 (.cells [nv 3, nv 1] 3 (some 1) false)), ([nv 5, nv 4, nv 1], .row 2 2 (.cells [nv 4, nv 1] 3 (some 1) false))]
theorem kMonic25_0_run : kAll xfT (fun _ _ _ => none) 100 12 60 kMonic25_0 = true := by kernel_rfl
theorem kMonic25_0_ok : KTabOk Try.prog 60 kMonic25_0 := KTabOk.of mixed xfT_ok noO kMonic25_0_run
def kMonic25_ : KTab := kMonic25_0
theorem kMonic25__ok : KTabOk Try.prog 60 kMonic25_ := kMonic25_0_ok
def kMonic27_0 : KTab := [([nv 3, nv 0, nv 1], .row 2 2 (.cells [nv 0, nv 1] 3 (some 1) false)), ([nv 3, nv 1, nv 1], .row 2 2 (.cells [nv 1, nv 1] 3 (some 1) false)), ([nv 3, nv 2, nv 1], .row 2 2 (.cells [nv 2, nv 1] 3 (some 1) false)), ([nv 3, nv 0, nv 2], .row 3 3 (.cells [nv 0, nv 0, nv 1] 3 (some 1) false)), ([nv 3, nv 1, nv 2], .row 3 3 (.cells [nv 1, nv 0, nv 1] 3 (some 1) false)), ([nv 3, nv 2, nv 2], .row 3 3 (.cells [nv 2, nv 0, nv 1] 3 (some 1) false)), ([nv 3, nv 3, nv 2], .row 3 3 (.cells [nv 0, nv 1, nv 1] 3 (some 1) false)), ([nv 3, nv 4, nv 2], .row 3 3 (.cells [nv 1, nv 1, nv 1] 3 (some 1) false)), ([nv 3, nv 5, nv 2], .row 3 3 (.cells [nv 2, nv 1, nv 1] 3 (some 1) false)), ([nv 3, nv 6, nv 2], .row 3 3 (.cells [nv 0, nv 2, nv 1] 3 (some 1) false)), ([nv 3, nv 7, nv 2], .row 3 3 (.cells [nv 1, nv 2, nv 1] 3 (some 1) false)), ([nv 3, nv 8, nv 2], .row 3 3 (.cells [nv 2, nv 2, nv 1] 3 (some 1) false))]
theorem kMonic27_0_run : kAll xfT (fun _ _ _ => none) 100 12 60 kMonic27_0 = true := by kernel_rfl
theorem kMonic27_0_ok : KTabOk Try.prog 60 kMonic27_0 := KTabOk.of mixed xfT_ok noO kMonic27_0_run
def kMonic27_ : KTab := kMonic27_0
theorem kMonic27__ok : KTabOk Try.prog 60 kMonic27_ := kMonic27_0_ok
def kMonic29_ : KTab := []
theorem kMonic29__ok : KTabOk Try.prog 60 kMonic29_ := by intro x hx; cases hx
def kMonic31_ : KTab := []
theorem kMonic31__ok : KTabOk Try.prog 60 kMonic31_ := by intro x hx; cases hx
def kMonic32_0 : KTab := [([nv 2, nv 0, nv 1], .row 2 2 (.cells [nv 0, nv 1] 3 (some 1) false)), ([nv 2, nv 1, nv 1], .row 2 2 (.cells [nv 1, nv 1] 3 (some 1) false)), ([nv 2, nv 0, nv 2], .row 3 3 (.cells [nv 0, nv 0, nv 1] 3 (some 1) false)), ([nv 2, nv 1, nv 2], .row 3 3 (.cells [nv 1, nv 0, nv 1] 3 (some 1) false)), ([nv 2, nv 2, nv 2], .row 3 3 (.cells [nv 0, nv 1, nv 1] 3 (some 1) false)), ([nv 2, nv 3, nv 2], .row 3 3 (.cells [nv 1, nv 1, nv 1] 3 (some 1) false)), ([nv 2, nv 0, nv 3], .row 4 4 (.cells [nv 0, nv 0, nv 0, nv 1] 3 (some 1) false)), ([nv 2, nv 1, nv 3], .row 4 4 (.cells [nv 1, nv 0, nv 0, nv 1] 3 (some 1) false)), ([nv 2, nv 2, nv 3], .row 4 4 (.cells [nv 0, nv 1, nv 0, nv 1] 3 (some 1) false)), ([nv 2, nv 3, nv 3], .row 4 4 (.cells [nv 1, nv 1, nv 0, nv 1] 3 (some 1) false)), ([nv 2, nv 4, nv 3], .row 4 4 (.cells [nv 0, nv 0, nv 1, nv 1] 3 (some 1) false)), ([nv 2, nv 5, nv 3], .row 4 4 (.cells [nv 1, nv 0, nv 1, nv 1] 3 (some 1) false)), ([nv 2, nv 6, nv 3], .row 4 4 (.cells [nv 0, nv 1, nv 1, nv 1] 3 (some 1) false)), ([nv 2, nv 7, nv 3], .row 4 4 (.cells [nv 1, nv 1, nv 1, nv 1] 3 (some 1) false)), ([nv 2, nv 0, nv 4], .row 5 5 (.cells [nv 0, nv 0, nv 0, nv 0, nv 1] 3 (some 1) false)), ([nv 2, nv 1, nv 4], .row 5 5 (.cells [nv 1, nv 0, nv 0, nv 0, nv 1] 3 (some 1) false)), ([nv 2, nv 2, nv 4], .row 5 5 (.cells [nv 0, nv 1, nv 0, nv 0, nv 1] 3 (some 1) false)), ([nv 2, nv 3, nv 4], .row 5 5 (.cells [nv 1, nv 1, nv 0, nv 0, nv 1] 3 (some 1) false)), ([nv 2, nv 4, nv 4], .row 5 5 (.cells [nv 0, nv 0, nv 1, nv 0, nv 1] 3 (some 1) false)), ([nv 2, nv 5, nv 4], .row 5 5 (.cells [nv 1, nv 0, nv 1, nv 0, nv 1] 3 (some 1) false)), ([nv 2, nv 6, nv 4], .row 5 5 (.cells [nv 0, nv 1, nv 1, nv 0, nv 1] 3 (some 1) false)), ([nv 2, nv 7, nv 4], .row 5 5 (.cells [nv 1, nv 1, nv 1, nv 0, nv 1] 3 (some 1) false)), ([nv 2, nv 8, nv 4], .row 5 5 (.cells [nv 0, nv 0, nv 0, nv 1, nv 1] 3 (some 1) false)), ([nv 2, nv 9, nv 4], .row 5 5 (.cells [nv 1, nv 0, nv 0, nv 1, nv 1] 3 (some 1) false)), ([nv 2, nv 10, nv 4], .row 5 5 (.cells [nv 0, nv 1, nv 0, nv 1, nv 1] 3 (some 1) false)), ([nv 2, nv 11, nv 4], .row 5 5 (.cells [nv 1, nv 1, nv 0, nv 1, nv 1] 3 (some 1) false)), ([nv 2, nv 12, nv 4], .row 5 5 (.cells [nv 0, nv 0, nv 1, nv 1, nv 1] 3 (some 1) false)), ([nv 2, nv 13, nv 4], .row 5 5 (.cells [nv 1, nv 0, nv 1, nv 1, nv 1] 3 (some 1) false)), ([nv 2, nv 14, nv 4], .row 5 5 (.cells [nv 0, nv 1, nv 1, nv 1, nv 1] 3 (some 1) false)), ([nv 2, nv 15, nv 4], .row 5 5 (.cells [nv 1, nv 1, nv 1, nv 1, nv 1] 3 (some 1) false))]
theorem kMonic32_0_run : kAll xfT (fun _ _ _ => none) 100 12 60 kMonic32_0 = true := by kernel_rfl
theorem kMonic32_0_ok : KTabOk Try.prog 60 kMonic32_0 := KTabOk.of mixed xfT_ok noO kMonic32_0_run
def kMonic32_ : KTab := kMonic32_0
theorem kMonic32__ok : KTabOk Try.prog 60 kMonic32_ := kMonic32_0_ok
def kMonic37_ : KTab := []
theorem kMonic37__ok : KTabOk Try.prog 60 kMonic37_ := by intro x hx; cases hx
def kMonic41_ : KTab := []
theorem kMonic41__ok : KTabOk Try.prog 60 kMonic41_ := by intro x hx; cases hx
def kMonic43_ : KTab := []
theorem kMonic43__ok : KTabOk Try.prog 60 kMonic43_ := by intro x hx; cases hx
def kMonic47_ : KTab := []
theorem kMonic47__ok : KTabOk Try.prog 60 kMonic47_ := by intro x hx; cases hx
def kMonic49_0 : KTab := [([nv 7, nv 0, nv 1], .row 2 2 (.cells [nv 0, nv 1] 3 (some 1) false)), ([nv 7, nv 1, nv 1], .row 2 2 (.cells [nv 1, nv 1] 3 (some 1) false)), ([nv 7, nv 2, nv 1], .row 2 2 (.cells [nv 2, nv 1] 3 (some 1) false)), ([nv 7, nv 3, nv 1], .row 2 2 (.cells [nv 3, nv 1] 3 (some 1) false)), ([nv 7, nv 4, nv 1], .row 2 2 (.cells [nv 4, nv 1] 3 (some 1) false)), ([nv 7, nv 5, nv 1], .row 2 2 (.cells [nv 5, nv 1] 3 (some 1) false)), ([nv 7, nv 6, nv 1], .row 2 2 (.cells [nv 6, nv 1] 3 (some 1) false))]
theorem kMonic49_0_run : kAll xfT (fun _ _ _ => none) 100 12 60 kMonic49_0 = true := by kernel_rfl
theorem kMonic49_0_ok : KTabOk Try.prog 60 kMonic49_0 := KTabOk.of mixed xfT_ok noO kMonic49_0_run
def kMonic49_ : KTab := kMonic49_0
theorem kMonic49__ok : KTabOk Try.prog 60 kMonic49_ := kMonic49_0_ok
def kMonic53_ : KTab := []
theorem kMonic53__ok : KTabOk Try.prog 60 kMonic53_ := by intro x hx; cases hx
def kMonic59_ : KTab := []
theorem kMonic59__ok : KTabOk Try.prog 60 kMonic59_ := by intro x hx; cases hx
def kMonic61_ : KTab := []
theorem kMonic61__ok : KTabOk Try.prog 60 kMonic61_ := by intro x hx; cases hx
def kMonic64_0 : KTab := [([nv 2, nv 0, nv 1], .row 2 2 (.cells [nv 0, nv 1] 3 (some 1) false)), ([nv 2, nv 1, nv 1], .row 2 2 (.cells [nv 1, nv 1] 3 (some 1) false)), ([nv 2, nv 0, nv 2], .row 3 3 (.cells [nv 0, nv 0, nv 1] 3 (some 1) false)), ([nv 2, nv 1, nv 2], .row 3 3 (.cells [nv 1, nv 0, nv 1] 3 (some 1) false)), ([nv 2, nv 2, nv 2], .row 3 3 (.cells [nv 0, nv 1, nv 1] 3 (some 1) false)), ([nv 2, nv 3, nv 2], .row 3 3 (.cells [nv 1, nv 1, nv 1] 3 (some 1) false)), ([nv 2, nv 0, nv 3], .row 4 4 (.cells [nv 0, nv 0, nv 0, nv 1] 3 (some 1) false)), ([nv 2, nv 1, nv 3], .row 4 4 (.cells [nv 1, nv 0, nv 0, nv 1] 3 (some 1) false)), ([nv 2, nv 2, nv 3], .row 4 4 (.cells [nv 0, nv 1, nv 0, nv 1] 3 (some 1) false)), ([nv 2, nv 3, nv 3], .row 4 4 (.cells [nv 1, nv 1, nv 0, nv 1] 3 (some 1) false)), ([nv 2, nv 4, nv 3], .row 4 4 (.cells [nv 0, nv 0, nv 1, nv 1] 3 (some 1) false)), ([nv 2, nv 5, nv 3], .row 4 4 (.cells [nv 1, nv 0, nv 1, nv 1] 3 (some 1) false)), ([nv 2, nv 6, nv 3], .row 4 4 (.cells [nv 0, nv 1, nv 1, nv 1] 3 (some 1) false)), ([nv 2, nv 7, nv 3], .row 4 4 (.cells [nv 1, nv 1, nv 1, nv 1] 3 (some 1) false)), ([nv 2, nv 0, nv 4], .row 5 5 (.cells [nv 0, nv 0, nv 0, nv 0, nv 1] 3 (some 1) false)), ([nv 2, nv 1, nv 4], .row 5 5 (.cells [nv 1, nv 0, nv 0, nv 0, nv 1] 3 (some 1) false)), ([nv 2, nv 2, nv 4], .row 5 5 (.cells [nv 0, nv 1, nv 0, nv 0, nv 1] 3 (some 1) false)), ([nv 2, nv 3, nv 4], .row 5 5 (.cells [nv 1, nv 1, nv 0, nv 0, nv 1] 3 (some 1) false)), ([nv 2, nv 4, nv 4], .row 5 5 (.cells [nv 0, nv 0, nv 1, nv 0, nv 1] 3 (some 1) false)), ([nv 2, nv 5, nv 4], .row 5 5 (.cells [nv 1, nv 0, nv 1, nv 0, nv 1] 3 (some 1) false)), ([nv 2, nv 6, nv 4], .row 5 5 (.cells [nv 0, nv 1, nv 1, nv 0, nv 1] 3 (some 1) false)), ([nv 2, nv 7, nv 4], .row 5 5 (.cells [nv 1, nv 1, nv 1, nv 0, nv 1] 3 (some 1) false)), ([nv 2, nv 8, nv 4], .row 5 5 (.cells [nv 0, nv 0, nv 0, nv 1, nv 1] 3 (some 1) false)), ([nv 2, nv 9, nv 4], .row 5 5 (.cells [nv 1, nv 0, nv 0, nv 1, nv 1] 3 (some 1) false)), ([nv 2, nv 10, nv 4], .row 5 5 (.cells [nv 0, nv 1, nv 0, nv 1, nv 1] 3 (some 1) false)), ([nv 2, nv 11, nv 4], .row 5 5 (.cells [nv 1, nv 1, nv 0, nv 1, nv 1] 3 (some 1) false)), ([nv 2, nv 12, nv 4], .row 5 5 (.cells [nv 0, nv 0, nv 1, nv 1, nv 1] 3 (some 1) false)), ([nv 2, nv 13, nv 4], .row 5 5 (.cells [nv 1, nv 0, nv 1, nv 1, nv 1] 3 (some 1) false)), ([nv 2, nv 14, nv 4], .row 5 5 (.cells [nv 0, nv 1, nv 1, nv 1, nv 1] 3 (some 1) false)), ([nv 2, nv 15, nv 4], .row 5 5 (.cells [nv 1, nv 1, nv 1, nv 1, nv 1] 3 (some 1) false)), ([nv 2, nv 0, nv 5], .row 6 6 (.cells [nv 0, nv 0, nv 0, nv 0, nv 0, nv 1] 3 (some 1) false)), ([nv 2, nv 1, nv 5], .row 6 6 (.cells [nv 1, nv 0, nv 0, nv 0, nv 0, nv 1] 3 (some 1) false)), ([nv 2, nv 2, nv 5], .row 6 6 (.cells [nv 0, nv 1, nv 0, nv 0, nv 0, nv 1] 3 (some 1) false)), ([nv 2, nv 3, nv 5], .row 6 6 (.cells [nv 1, nv 1, nv 0, nv 0, nv 0, nv 1] 3 (some 1) false)), ([nv 2, nv 4, nv 5], .row 6 6 (.cells [nv 0, nv 0, nv 1, nv 0, nv 0, nv 1] 3 (some 1) false)), ([nv 2, nv 5, nv 5], .row 6 6 (.cells [nv 1, nv 0, nv 1, nv 0, nv 0, nv 1] 3 (some 1) false)), ([nv 2, nv 6, nv 5], .row 6 6 (.cells [nv 0, nv 1, nv 1, nv 0, nv 0, nv 1] 3 (some 1) false)), ([nv 2, nv 7, nv 5], .row 6 6 (.cells [nv 1, nv 1, nv 1, nv 0, nv 0, nv 1] 3 (some 1) false)), ([nv 2, nv 8, nv 5], .row 6 6 (.cells [nv 0, nv 0, nv 0, nv 1, nv 0, nv 1] 3 (some 1) false)), ([nv 2, nv 9, nv 5], .row 6 6 (.cells [nv 1, nv 0, nv 0, nv 1, nv 0, nv 1] 3 (some 1) false)), ([nv 2, nv 10, nv 5], .row 6 6 (.cells [nv 0, nv 1, nv 0, nv 1, nv 0, nv 1] 3 (some 1) false)), ([nv 2, nv 11, nv 5], .row 6 6 (.cells [nv 1, nv 1, nv 0, nv 1, nv 0, nv 1] 3 (some 1) false)), ([nv 2, nv 12, nv 5], .row 6 6 (.cells [nv 0, nv 0, nv 1, nv 1, nv 0, nv 1] 3 (some 1) false)), ([nv 2, nv 13, nv 5], .row 6 6 (.cells [nv 1, nv 0, nv 1, nv 1, nv 0, nv 1] 3 (some 1) false)), ([nv 2, nv 14, nv 5], .row 6 6 (.cells [nv 0, nv 1, nv 1, nv 1, nv 0, nv 1] 3 (some 1) false)), ([nv 2, nv 15, nv 5], .row 6 6 (.cells [nv 1, nv 1, nv 1, nv 1, nv 0, nv 1] 3 (some 1) false)), ([nv 2, nv 16, nv 5], .row 6 6 (.cells [nv 0, nv 0, nv 0, nv 0, nv 1, nv 1] 3 (some 1) false)), ([nv 2, nv 17, nv 5], .row 6 6 (.cells [nv 1, nv 0, nv 0, nv 0, nv 1, nv 1] 3 (some 1) false)), ([nv 2, nv 18, nv 5], .row 6 6 (.cells [nv 0, nv 1, nv 0, nv 0, nv 1, nv 1] 3 (some 1) false)), ([nv 2, nv 19, nv 5], .row 6 6 (.cells [nv 1, nv 1, nv 0, nv 0, nv 1, nv 1] 3 (some 1) false)), ([nv 2, nv 20, nv 5], .row 6 6 (.cells [nv 0, nv 0, nv 1, nv 0, nv 1, nv 1] 3 (some 1) false)), ([nv 2, nv 21, nv 5], .row 6 6 (.cells [nv 1, nv 0, nv 1, nv 0, nv 1, nv 1] 3 (some 1) false)), ([nv 2, nv 22, nv 5], .row 6 6 (.cells [nv 0, nv 1, nv 1, nv 0, nv 1, nv 1] 3 (some 1) false)), ([nv 2, nv 23, nv 5], .row 6 6 (.cells [nv 1, nv 1, nv 1, nv 0, nv 1, nv 1] 3 (some 1) false)), ([nv 2, nv 24, nv 5], .row 6 6 (.cells [nv 0, nv 0, nv 0, nv 1, nv 1, nv 1] 3 (some 1) false)), ([nv 2, nv 25, nv 5], .row 6 6 (.cells [nv 1, nv 0, nv 0, nv 1, nv 1, nv 1] 3 (some 1) false)), ([nv 2, nv 26, nv 5], .row 6 6 (.cells [nv 0, nv 1, nv 0, nv 1, nv 1, nv 1] 3 (some 1) false)), ([nv 2, nv 27, nv 5], .row 6 6 (.cells [nv 1, nv 1, nv 0, nv 1, nv 1, nv 1] 3 (some 1) false)), ([nv 2, nv 28, nv 5], .row 6 6 (.cells [nv 0, nv 0, nv 1, nv 1, nv 1, nv 1] 3 (some 1) false)), ([nv 2, nv 29, nv 5], .row 6 6 (.cells [nv 1, nv 0, nv 1, nv 1, nv 1, nv 1] 3 (some 1) false)), ([nv 2, nv 30, nv 5], .row 6 6 (.cells [nv 0, nv 1, nv 1, nv 1, nv 1, nv 1] 3 (some 1) false)), ([nv 2, nv 31, nv 5], .row 6 6 (.cells [nv 1, nv 1, nv 1, nv 1, nv 1, nv 1] 3 (some 1) false))]
theorem kMonic64_0_run : kAll xfT (fun _ _ _ => none) 100 12 60 kMonic64_0 = true := by kernel_rfl
theorem kMonic64_0_ok : KTabOk Try.prog 60 kMonic64_0 := KTabOk.of mixed xfT_ok noO kMonic64_0_run
def kMonic64_ : KTab := kMonic64_0
theorem kMonic64__ok : KTabOk Try.prog 60 kMonic64_ := kMonic64_0_ok
def kProd2_0 : KTab := [([nv 2, nv 1, nv 2], .row 2 2 (.cells [.bool false, .bool false] 4 none false))]
theorem kProd2_0_run : kAll xfT (orO (oKn 60 kMonic2_) oTimes) 100 12 41 kProd2_0 = true := by kernel_rfl
theorem kProd2_0_ok : KTabOk Try.prog 41 kProd2_0 := KTabOk.of mixed xfT_ok ((oKn_ok kMonic2__ok).or oTimes_ok) kProd2_0_run
def kProd2_ : KTab := kProd2_0
theorem kProd2__ok : KTabOk Try.prog 41 kProd2_ := kProd2_0_ok
def kProd3_0 : KTab := [([nv 3, nv 1, nv 3], .row 3 3 (.cells [.bool false, .bool false, .bool false] 4 none false))]
theorem kProd3_0_run : kAll xfT (orO (oKn 60 kMonic3_) oTimes) 100 12 41 kProd3_0 = true := by kernel_rfl
theorem kProd3_0_ok : KTabOk Try.prog 41 kProd3_0 := KTabOk.of mixed xfT_ok ((oKn_ok kMonic3__ok).or oTimes_ok) kProd3_0_run
def kProd3_ : KTab := kProd3_0
theorem kProd3__ok : KTabOk Try.prog 41 kProd3_ := kProd3_0_ok
def kProd4_0 : KTab := [([nv 2, nv 2, nv 4], .row 4 4 (.cells [.bool true, .bool true, .bool true, .bool false] 4 none false))]
theorem kProd4_0_run : kAll xfT (orO (oKn 60 kMonic4_) oTimes) 100 12 41 kProd4_0 = true := by kernel_rfl
theorem kProd4_0_ok : KTabOk Try.prog 41 kProd4_0 := KTabOk.of mixed xfT_ok ((oKn_ok kMonic4__ok).or oTimes_ok) kProd4_0_run
def kProd4_ : KTab := kProd4_0
theorem kProd4__ok : KTabOk Try.prog 41 kProd4_ := kProd4_0_ok
def kProd5_0 : KTab := [([nv 5, nv 1, nv 5], .row 5 5 (.cells [.bool false, .bool false, .bool false, .bool false, .bool false] 4 none false))]
theorem kProd5_0_run : kAll xfT (orO (oKn 60 kMonic5_) oTimes) 100 12 41 kProd5_0 = true := by kernel_rfl
theorem kProd5_0_ok : KTabOk Try.prog 41 kProd5_0 := KTabOk.of mixed xfT_ok ((oKn_ok kMonic5__ok).or oTimes_ok) kProd5_0_run
def kProd5_ : KTab := kProd5_0
theorem kProd5__ok : KTabOk Try.prog 41 kProd5_ := kProd5_0_ok
def kProd7_0 : KTab := [([nv 7, nv 1, nv 7], .row 7 7 (.cells [.bool false, .bool false, .bool false, .bool false, .bool false, .bool false, .bool false] 4 none false))]
theorem kProd7_0_run : kAll xfT (orO (oKn 60 kMonic7_) oTimes) 100 12 41 kProd7_0 = true := by kernel_rfl
theorem kProd7_0_ok : KTabOk Try.prog 41 kProd7_0 := KTabOk.of mixed xfT_ok ((oKn_ok kMonic7__ok).or oTimes_ok) kProd7_0_run
def kProd7_ : KTab := kProd7_0
theorem kProd7__ok : KTabOk Try.prog 41 kProd7_ := kProd7_0_ok
def kProd8_0 : KTab := [([nv 2, nv 3, nv 8], .row 8 8 (.cells [.bool true, .bool true, .bool true, .bool false, .bool true, .bool false, .bool true, .bool true] 4 none false))]
theorem kProd8_0_run : kAll xfT (orO (oKn 60 kMonic8_) oTimes) 100 12 41 kProd8_0 = true := by kernel_rfl
theorem kProd8_0_ok : KTabOk Try.prog 41 kProd8_0 := KTabOk.of mixed xfT_ok ((oKn_ok kMonic8__ok).or oTimes_ok) kProd8_0_run
def kProd8_ : KTab := kProd8_0
theorem kProd8__ok : KTabOk Try.prog 41 kProd8_ := kProd8_0_ok
def kProd9_0 : KTab := [([nv 3, nv 2, nv 9], .row 9 9 (.cells [.bool true, .bool false, .bool true, .bool true, .bool true, .bool false, .bool true, .bool true, .bool false] 4 none false))]
theorem kProd9_0_run : kAll xfT (orO (oKn 60 kMonic9_) oTimes) 100 12 41 kProd9_0 = true := by kernel_rfl
theorem kProd9_0_ok : KTabOk Try.prog 41 kProd9_0 := KTabOk.of mixed xfT_ok ((oKn_ok kMonic9__ok).or oTimes_ok) kProd9_0_run
def kProd9_ : KTab := kProd9_0
theorem kProd9__ok : KTabOk Try.prog 41 kProd9_ := kProd9_0_ok
def kProd11_0 : KTab := [([nv 11, nv 1, nv 11], .row 11 11 (.cells [.bool false, .bool false, .bool false, .bool false, .bool false, .bool false, .bool false, .bool false, .bool false, .bool false, .bool false] 4 none false))]
theorem kProd11_0_run : kAll xfT (orO (oKn 60 kMonic11_) oTimes) 100 12 41 kProd11_0 = true := by kernel_rfl
theorem kProd11_0_ok : KTabOk Try.prog 41 kProd11_0 := KTabOk.of mixed xfT_ok ((oKn_ok kMonic11__ok).or oTimes_ok) kProd11_0_run
def kProd11_ : KTab := kProd11_0
theorem kProd11__ok : KTabOk Try.prog 41 kProd11_ := kProd11_0_ok
def kProd13_0 : KTab := [([nv 13, nv 1, nv 13], .row 13 13 (.cells [.bool false, .bool false, .bool false, .bool false, .bool false, .bool false, .bool false, .bool false, .bool false, .bool false, .bool false, .bool false, .bool false] 4 none false))]
theorem kProd13_0_run : kAll xfT (orO (oKn 60 kMonic13_) oTimes) 100 12 41 kProd13_0 = true := by kernel_rfl
theorem kProd13_0_ok : KTabOk Try.prog 41 kProd13_0 := KTabOk.of mixed xfT_ok ((oKn_ok kMonic13__ok).or oTimes_ok) kProd13_0_run
def kProd13_ : KTab := kProd13_0
theorem kProd13__ok : KTabOk Try.prog 41 kProd13_ := kProd13_0_ok
def kProd16_0 : KTab := [([nv 2, nv 4, nv 16], .row 16 16 (.cells [.bool true, .bool true, .bool true, .bool false, .bool true, .bool true, .bool true, .bool true, .bool true, .bool false, .bool true, .bool true, .bool true, .bool true, .bool true, .bool false] 4 none false))]
theorem kProd16_0_run : kAll xfT (orO (oKn 60 kMonic16_) oTimes) 100 12 41 kProd16_0 = true := by kernel_rfl
theorem kProd16_0_ok : KTabOk Try.prog 41 kProd16_0 := KTabOk.of mixed xfT_ok ((oKn_ok kMonic16__ok).or oTimes_ok) kProd16_0_run
def kProd16_ : KTab := kProd16_0
theorem kProd16__ok : KTabOk Try.prog 41 kProd16_ := kProd16_0_ok
def kProd17_0 : KTab := [([nv 17, nv 1, nv 17], .row 17 17 (.cells [.bool false, .bool false, .bool false, .bool false, .bool false, .bool false, .bool false, .bool false, .bool false, .bool false, .bool false, .bool false, .bool false, .bool false, .bool false, .bool false, .bool false] 4 none false))]
theorem kProd17_0_run : kAll xfT (orO (oKn 60 kMonic17_) oTimes) 100 12 41 kProd17_0 = true := by kernel_rfl
theorem kProd17_0_ok : KTabOk Try.prog 41 kProd17_0 := KTabOk.of mixed xfT_ok ((oKn_ok kMonic17__ok).or oTimes_ok) kProd17_0_run
def kProd17_ : KTab := kProd17_0
theorem kProd17__ok : KTabOk Try.prog 41 kProd17_ := kProd17_0_ok
def kProd19_0 : KTab := [([nv 19, nv 1, nv 19], .row 19 19 (.cells [.bool false, .bool false, .bool false, .bool false, .bool false, .bool false, .bool false, .bool false, .bool false, .bool false, .bool false, .bool false, .bool false, .bool false, .bool false, .bool false, .bool false, .bool false, .bool false] 4 none false))]
theorem kProd19_0_run : kAll xfT (orO (oKn 60 kMonic19_) oTimes) 100 12 41 kProd19_0 = true := by kernel_rfl
theorem kProd19_0_ok : KTabOk Try.prog 41 kProd19_0 := KTabOk.of mixed xfT_ok ((oKn_ok kMonic19__ok).or oTimes_ok) kProd19_0_run
def kProd19_ : KTab := kProd19_0
theorem kProd19__ok : KTabOk Try.prog 41 kProd19_ := kProd19_0_ok
def kProd23_0 : KTab := [([nv 23, nv 1, nv 23], .row 23 23 (.cells [.bool false, .bool false, .bool false, .bool false, .bool false, .bool false, .bool false, .bool false, .bool false, .bool false, .bool false, .bool false, .bool false, .bool false, .bool false, .bool false, .bool false, .bool false, .bool false, .bool false, .bool false, .bool false, .bool false] 4 none false))]
theorem kProd23_0_run : kAll xfT (orO (oKn 60 kMonic23_) oTimes) 100 12 41 kProd23_0 = true := by kernel_rfl
theorem kProd23_0_ok : KTabOk Try.prog 41 kProd23_0 := KTabOk.of mixed xfT_ok ((oKn_ok kMonic23__ok).or oTimes_ok) kProd23_0_run
def kProd23_ : KTab := kProd23_0
theorem kProd23__ok : KTabOk Try.prog 41 kProd23_ := kProd23_0_ok
def kProd25_0 : KTab := [([nv 5, nv 2, nv 25], .row 25 25 (.cells [.bool true, .bool true, .bool false, .bool false, .bool true, .bool true, .bool false, .bool false, .bool true, .bool true, .bool true, .bool true, .bool true, .bool false, .bool false, .bool true, .bool true, .bool true, .bool false, .bool false, .bool true, .bool false, .bool false, .bool true, .bool true] 4 none false))]
theorem kProd25_0_run : kAll xfT (orO (oKn 60 kMonic25_) oTimes) 100 12 41 kProd25_0 = true := by kernel_rfl
theorem kProd25_0_ok : KTabOk Try.prog 41 kProd25_0 := KTabOk.of mixed xfT_ok ((oKn_ok kMonic25__ok).or oTimes_ok) kProd25_0_run
def kProd25_ : KTab := kProd25_0
theorem kProd25__ok : KTabOk Try.prog 41 kProd25_ := kProd25_0_ok
def kProd27_0 : KTab := [([nv 3, nv 3, nv 27], .row 27 27 (.cells [.bool true, .bool true, .bool true, .bool true, .bool true, .bool true, .bool true, .bool false, .bool false, .bool true, .bool true, .bool false, .bool true, .bool true, .bool false, .bool true, .bool false, .bool true, .bool true, .bool false, .bool true, .bool true, .bool false, .bool true, .bool true, .bool true, .bool false] 4 none false))]
theorem kProd27_0_run : kAll xfT (orO (oKn 60 kMonic27_) oTimes) 100 12 41 kProd27_0 = true := by kernel_rfl
theorem kProd27_0_ok : KTabOk Try.prog 41 kProd27_0 := KTabOk.of mixed xfT_ok ((oKn_ok kMonic27__ok).or oTimes_ok) kProd27_0_run
def kProd27_ : KTab := kProd27_0
theorem kProd27__ok : KTabOk Try.prog 41 kProd27_ := kProd27_0_ok
def kProd29_0 : KTab := [([nv 29, nv 1, nv 29], .row 29 29 (.cells [.bool false, .bool false, .bool false, .bool false, .bool false, .bool false, .bool false, .bool false, .bool false, .bool false, .bool false, .bool false, .bool false, .bool false, .bool false, .bool false, .bool false, .bool false, .bool false, .bool false, .bool false, .bool false, .bool false, .bool false, .bool false, .bool false, .bool false, .bool false, .bool false] 4 none false))]
theorem kProd29_0_run : kAll xfT (orO (oKn 60 kMonic29_) oTimes) 100 12 41 kProd29_0 = true := by kernel_rfl
theorem kProd29_0_ok : KTabOk Try.prog 41 kProd29_0 := KTabOk.of mixed xfT_ok ((oKn_ok kMonic29__ok).or oTimes_ok) kProd29_0_run
def kProd29_ : KTab := kProd29_0
theorem kProd29__ok : KTabOk Try.prog 41 kProd29_ := kProd29_0_ok
def kProd31_0 : KTab := [([nv 31, nv 1, nv 31], .row 31 31 (.cells [.bool false, .bool false, .bool false, .bool false, .bool false, .bool false, .bool false, .bool false, .bool false, .bool false, .bool false, .bool false, .bool false, .bool false, .bool false, .bool false, .bool false, .bool false, .bool false, .bool false, .bool false, .bool false, .bool false, .bool false, .bool false, .bool false, .bool false, .bool false, .bool false, .bool false, .bool false] 4 none false))]
theorem kProd31_0_run : kAll xfT (orO (oKn 60 kMonic31_) oTimes) 100 12 41 kProd31_0 = true := by kernel_rfl
theorem kProd31_0_ok : KTabOk Try.prog 41 kProd31_0 := KTabOk.of mixed xfT_ok ((oKn_ok kMonic31__ok).or oTimes_ok) kProd31_0_run
def kProd31_ : KTab := kProd31_0
theorem kProd31__ok : KTabOk Try.prog 41 kProd31_ := kProd31_0_ok
def kProd32_0 : KTab := [([nv 2, nv 5, nv 32], .row 32 32 (.cells [.bool true, .bool true, .bool true, .bool true, .bool true, .bool false, .bool true, .bool true, .bool true, .bool false, .bool true, .bool true, .bool true, .bool true, .bool true, .bool false, .bool true, .bool true, .bool true, .bool true, .bool true, .bool true, .bool true, .bool false, .bool true, .bool true, .bool true, .bool false, .bool true, .bool false, .bool true, .bool true] 4 none false))]
theorem kProd32_0_run : kAll xfT (orO (oKn 60 kMonic32_) oTimes) 100 12 41 kProd32_0 = true := by kernel_rfl
theorem kProd32_0_ok : KTabOk Try.prog 41 kProd32_0 := KTabOk.of mixed xfT_ok ((oKn_ok kMonic32__ok).or oTimes_ok) kProd32_0_run
def kProd32_ : KTab := kProd32_0
theorem kProd32__ok : KTabOk Try.prog 41 kProd32_ := kProd32_0_ok
def kProd37_0 : KTab := [([nv 37, nv 1, nv 37], .row 37 37 (.cells [.bool false, .bool false, .bool false, .bool false, .bool false, .bool false, .bool false, .bool false, .bool false, .bool false, .bool false, .bool false, .bool false, .bool false, .bool false, .bool false, .bool false, .bool false, .bool false, .bool false, .bool false, .bool false, .bool false, .bool false, .bool false, .bool false, .bool false, .bool false, .bool false, .bool false, .bool false, .bool false, .bool false, .bool false, .bool false, .bool false, .bool false] 4 none false))]
theorem kProd37_0_run : kAll xfT (orO (oKn 60 kMonic37_) oTimes) 100 12 41 kProd37_0 = true := by kernel_rfl
theorem kProd37_0_ok : KTabOk Try.prog 41 kProd37_0 := KTabOk.of mixed xfT_ok ((oKn_ok kMonic37__ok).or oTimes_ok) kProd37_0_run
def kProd37_ : KTab := kProd37_0
theorem kProd37__ok : KTabOk Try.prog 41 kProd37_ := kProd37_0_ok
def kProd41_0 : KTab := [([nv 41, nv 1, nv 41], .row 41 41 (.cells [.bool false, .bool false, .bool false, .bool false, .bool false, .bool false, .bool false, .bool false, .bool false, .bool false, .bool false, .bool false, .bool false, .bool false, .bool false, .bool false, .bool false, .bool false, .bool false, .bool false, .bool false, .bool false, .bool false, .bool false, .bool false, .bool false, .bool false, .bool false, .bool false, .bool false, .bool false, .bool false, .bool false, .bool false, .bool false, .bool false, .bool false, .bool false, .bool false, .bool false, .bool false] 4 none false))]
theorem kProd41_0_run : kAll xfT (orO (oKn 60 kMonic41_) oTimes) 100 12 41 kProd41_0 = true := by kernel_rfl
theorem kProd41_0_ok : KTabOk Try.prog 41 kProd41_0 := KTabOk.of mixed xfT_ok ((oKn_ok kMonic41__ok).or oTimes_ok) kProd41_0_run
def kProd41_ : KTab := kProd41_0
theorem kProd41__ok : KTabOk Try.prog 41 kProd41_ := kProd41_0_ok
def kProd43_0 : KTab := [([nv 43, nv 1, nv 43], .row 43 43 (.cells [.bool false, .bool false, .bool false, .bool false, .bool false, .bool false, .bool false, .bool false, .bool false, .bool false, .bool false, .bool false, .bool false, .bool false, .bool false, .bool false, .bool false, .bool false, .bool false, .bool false, .bool false, .bool false, .bool false, .bool false, .bool false, .bool false, .bool false, .bool false, .bool false, .bool false, .bool false, .bool false, .bool false, .bool false, .bool false, .bool false, .bool false, .bool false, .bool false, .bool false, .bool false, .bool false, .bool false] 4 none false))]
theorem kProd43_0_run : kAll xfT (orO (oKn 60 kMonic43_) oTimes) 100 12 41 kProd43_0 = true := by kernel_rfl
theorem kProd43_0_ok : KTabOk Try.prog 41 kProd43_0 := KTabOk.of mixed xfT_ok ((oKn_ok kMonic43__ok).or oTimes_ok) kProd43_0_run
def kProd43_ : KTab := kProd43_0
theorem kProd43__ok : KTabOk Try.prog 41 kProd43_ := kProd43_0_ok
def kProd47_0 : KTab := [([nv 47, nv 1, nv 47], .row 47 47 (.cells [.bool false, .bool false, .bool false, .bool false, .bool false, .bool false, .bool false, .bool false, .bool false, .bool false, .bool false, .bool false, .bool false, .bool false, .bool false, .bool false, .bool false, .bool false, .bool false, .bool false, .bool false, .bool false, .bool false, .bool false, .bool false, .bool false, .bool false, .bool false, .bool false, .bool false, .bool false, .bool false, .bool false, .bool false, .bool false, .bool false, .bool false, .bool false, .bool false, .bool false, .bool false, .bool false, .bool false, .bool false, .bool false, .bool false, .bool false] 4 none false))]
theorem kProd47_0_run : kAll xfT (orO (oKn 60 kMonic47_) oTimes) 100 12 41 kProd47_0 = true := by kernel_rfl
theorem kProd47_0_ok : KTabOk Try.prog 41 kProd47_0 := KTabOk.of mixed xfT_ok ((oKn_ok kMonic47__ok).or oTimes_ok) kProd47_0_run
def kProd47_ : KTab := kProd47_0
theorem kProd47__ok : KTabOk Try.prog 41 kProd47_ := kProd47_0_ok
def kProd49_0 : KTab := [([nv 7, nv 2, nv 49], .row 49 49 (.cells [.bool true, .bool false, .bool false, .bool true, .bool false, .bool true, .bool true, .bool true, .bool true, .bool true, .bool false, .bool false, .bool true, .bool false, .bool true, .bool true, .bool false, .bool false, .bool true, .bool false, .bool true, .bool true, .bool false, .bool true, .bool true, .bool true, .bool false, .bool false, .bool true, .bool false, .bool true, .bool true, .bool true, .bool false, .bool false, .bool true, .bool true, .bool false, .bool false, .bool true, .bool false, .bool true, .bool true, .bool true, .bool true, .bool false, .bool false, .bool true, .bool false] 4 none false))]
theorem kProd49_0_run : kAll xfT (orO (oKn 60 kMonic49_) oTimes) 100 12 41 kProd49_0 = true := by kernel_rfl
theorem kProd49_0_ok : KTabOk Try.prog 41 kProd49_0 := KTabOk.of mixed xfT_ok ((oKn_ok kMonic49__ok).or oTimes_ok) kProd49_0_run
def kProd49_ : KTab := kProd49_0
theorem kProd49__ok : KTabOk Try.prog 41 kProd49_ := kProd49_0_ok
def kProd53_0 : KTab := [([nv 53, nv 1, nv 53], .row 53 53 (.cells [.bool false, .bool false, .bool false, .bool false, .bool false, .bool false, .bool false, .bool false, .bool false, .bool false, .bool false, .bool false, .bool false, .bool false, .bool false, .bool false, .bool false, .bool false, .bool false, .bool false, .bool false, .bool false, .bool false, .bool false, .bool false, .bool false, .bool false, .bool false, .bool false, .bool false, .bool false, .bool false, .bool false, .bool false, .bool false, .bool false, .bool false, .bool false, .bool false, .bool false, .bool false, .bool false, .bool false, .bool false, .bool false, .bool false, .bool false, .bool false, .bool false, .bool false, .bool false, .bool false, .bool false] 4 none false))]
theorem kProd53_0_run : kAll xfT (orO (oKn 60 kMonic53_) oTimes) 100 12 41 kProd53_0 = true := by kernel_rfl
theorem kProd53_0_ok : KTabOk Try.prog 41 kProd53_0 := KTabOk.of mixed xfT_ok ((oKn_ok kMonic53__ok).or oTimes_ok) kProd53_0_run
def kProd53_ : KTab := kProd53_0
theorem kProd53__ok : KTabOk Try.prog 41 kProd53_ := kProd53_0_ok
def kProd59_0 : KTab := [([nv 59, nv 1, nv 59], .row 59 59 (.cells [.bool false, .bool false, .bool false, .bool false, .bool false, .bool false, .bool false, .bool false, .bool false, .bool false, .bool false, .bool false, .bool false, .bool false, .bool false, .bool false, .bool false, .bool false, .bool false, .bool false, .bool false, .bool false, .bool false, .bool false, .bool false, .bool false, .bool false, .bool false, .bool false, .bool false, .bool false, .bool false, .bool false, .bool false, .bool false, .bool false, .bool false, .bool false, .bool false, .bool false, .bool false, .bool false, .bool false, .bool false, .bool false, .bool false, .bool false, .bool false, .bool false, .bool false, .bool false, .bool false, .bool false, .bool false, .bool false, .bool false, .bool false, .bool false, .bool false] 4 none false))]
theorem kProd59_0_run : kAll xfT (orO (oKn 60 kMonic59_) oTimes) 100 12 41 kProd59_0 = true := by kernel_rfl
theorem kProd59_0_ok : KTabOk Try.prog 41 kProd59_0 := KTabOk.of mixed xfT_ok ((oKn_ok kMonic59__ok).or oTimes_ok) kProd59_0_run
def kProd59_ : KTab := kProd59_0
theorem kProd59__ok : KTabOk Try.prog 41 kProd59_ := kProd59_0_ok
def kProd61_0 : KTab := [([nv 61, nv 1, nv 61], .row 61 61 (.cells [.bool false, .bool false, .bool false, .bool false, .bool false, .bool false, .bool false, .bool false, .bool false, .bool false, .bool false, .bool false, .bool false, .bool false, .bool false, .bool false, .bool false, .bool false, .bool false, .bool false, .bool false, .bool false, .bool false, .bool false, .bool false, .bool false, .bool false, .bool false, .bool false, .bool false, .bool false, .bool false, .bool false, .bool false, .bool false, .bool false, .bool false, .bool false, .bool false, .bool false, .bool false, .bool false, .bool false, .bool false, .bool false, .bool false, .bool false, .bool false, .bool false, .bool false, .bool false, .bool false, .bool false, .bool false, .bool false, .bool false, .bool false, .bool false, .bool false, .bool false, .bool false] 4 none false))]
theorem kProd61_0_run : kAll xfT (orO (oKn 60 kMonic61_) oTimes) 100 12 41 kProd61_0 = true := by kernel_rfl
theorem kProd61_0_ok : KTabOk Try.prog 41 kProd61_0 := KTabOk.of mixed xfT_ok ((oKn_ok kMonic61__ok).or oTimes_ok) kProd61_0_run
def kProd61_ : KTab := kProd61_0
theorem kProd61__ok : KTabOk Try.prog 41 kProd61_ := kProd61_0_ok
def kProd64_0 : KTab := [([nv 2, nv 6, nv 64], .row 64 64 (.cells [.bool true, .bool true, .bool true, .bool false, .bool true, .bool true, .bool true, .bool true, .bool true, .bool false, .bool true, .bool true, .bool true, .bool true, .bool true, .bool true, .bool true, .bool true, .bool true, .bool true, .bool true, .bool true, .bool true, .bool false, .bool true, .bool true, .bool true, .bool false, .bool true, .bool true, .bool true, .bool true, .bool true, .bool false, .bool true, .bool true, .bool true, .bool true, .bool true, .bool false, .bool true, .bool true, .bool true, .bool true, .bool true, .bool false, .bool true, .bool true, .bool true, .bool true, .bool true, .bool false, .bool true, .bool false, .bool true, .bool true, .bool true, .bool true, .bool true, .bool true, .bool true, .bool true, .bool true, .bool true] 4 none false))]
theorem kProd64_0_run : kAll xfT (orO (oKn 60 kMonic64_) oTimes) 100 12 41 kProd64_0 = true := by kernel_rfl
theorem kProd64_0_ok : KTabOk Try.prog 41 kProd64_0 := KTabOk.of mixed xfT_ok ((oKn_ok kMonic64__ok).or oTimes_ok) kProd64_0_run
def kProd64_ : KTab := kProd64_0
theorem kProd64__ok : KTabOk Try.prog 41 kProd64_ := kProd64_0_ok
def kProd : KTab := kProd2_ ++ kProd3_ ++ kProd4_ ++ kProd5_ ++ kProd7_ ++ kProd8_ ++ kProd9_ ++ kProd11_ ++ kProd13_ ++ kProd16_ ++ kProd17_ ++ kProd19_ ++ kProd23_ ++ kProd25_ ++ kProd27_ ++ kProd29_ ++ kProd31_ ++ kProd32_ ++ kProd37_ ++ kProd41_ ++ kProd43_ ++ kProd47_ ++ kProd49_ ++ kProd53_ ++ kProd59_ ++ kProd61_ ++ kProd64_
theorem kProd_ok : KTabOk Try.prog 41 kProd := ((((((((((((((((((((((((((kProd2__ok).append kProd3__ok).append kProd4__ok).append kProd5__ok).append kProd7__ok).append kProd8__ok).append kProd9__ok).append kProd11__ok).append kProd13__ok).append kProd16__ok).append kProd17__ok).append kProd19__ok).append kProd23__ok).append kProd25__ok).append kProd27__ok).append kProd29__ok).append kProd31__ok).append kProd32__ok).append kProd37__ok).append kProd41__ok).append kProd43__ok).append kProd47__ok).append kProd49__ok).append kProd53__ok).append kProd59__ok).append kProd61__ok).append kProd64__ok
end Go.Sim
