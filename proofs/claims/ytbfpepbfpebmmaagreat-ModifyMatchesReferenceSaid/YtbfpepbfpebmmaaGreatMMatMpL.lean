/- Part of the proof: MpL. -/
import Derived.Test.YtbfpepbfpebmmaaGreatMMatMpK
set_option linter.all false
namespace Go.Sim
open Go Go.Proofs
namespace Pf
theorem ordM_inj {i j:Nat} (hi:i<6) (hj:j<6) (h:ordM i=ordM j):i=j:=(by decide +kernel:∀ i,i<6→∀ j,j<6→ordM i=ordM j→i=j) i hi j hj h
end Pf
section
variable {α:Type} [Fl α] [DecidableEq α] {cd:α→Nat} {p e b c q:Nat} {blk:AB} {H:AH}
theorem qhj {v:Value} {A:List (List α)} (h:RowR H v (evr cd A)):qbc .lenS [v]=some (nv A.length):=by
  obtain⟨vs,hvs,hvl,_⟩:=h.open
  obtain⟨vl,_,_,_⟩:=hvs.allV
  rwa [hvl] at vl
end
end Go.Sim
