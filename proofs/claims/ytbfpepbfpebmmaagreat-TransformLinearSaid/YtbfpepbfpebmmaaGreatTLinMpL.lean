/- Part of the proof: MpL. -/
import Derived.Test.YtbfpepbfpebmmaaGreatTLinMpG
import Derived.Test.YtbfpepbfpebmmaaGreatTLinMoYToMpD
import Derived.Test.YtbfpepbfpebmmaaGreatTLinMoAToZTlA
set_option linter.all false
namespace Go.Sim
open Go Go.Proofs
namespace Pf
theorem pow_most {j:Nat} (hj:j<6):ordM j ^ qq1 j≤256:=(by decide +kernel:∀ j,j<6→ordM j ^ qq1 j≤256) j hj
end Pf
section
variable {α:Type} [Fl α] [DecidableEq α] {cd:α→Nat} {p e b c q:Nat} {blk:AB} {H:AH}
theorem len_of {v:Value} {A:List (List α)} (h:RowR H v (evr cd A)):qbc .lenS [v]=some (nv A.length):=by
  obtain⟨vs,hvs,hvl,_⟩:=h.open
  obtain⟨vl,_,_,_⟩:=hvs.allV
  rwa [hvl] at vl
end
end Go.Sim
