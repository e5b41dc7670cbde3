/- Part of the proof: MoO. -/
import Derived.Test.YtbfpepbfpebmmaaGreatMDimMoTToMoN
import Derived.Test.YtbfpepbfpebmmaaGreatMDimZMoL
set_option linter.all false
namespace Go.Sim
open Go Go.Proofs
def RowSt (S:Nat→Prop) (H:AH) (v:Value) (css:List (List Value)):Prop:=∀ H':AH,(∀ b,b<H.length→¬S b→H'[b]? = H[b]?)→RowR H' v css
section
variable {S:Nat→Prop} {H H2:AH} {v:Value} {css:List (List Value)}
theorem RowSt.now (h:RowSt S H v css):RowR H v css:=h H fun _ _ _=>rfl
end
section
variable {α:Type} [Fl α] [DecidableEq α] {cd:α→Nat} {p e b c q:Nat} {blk:AB} {H:AH}
theorem evened_q (hq:q=2) (Q:FQ α cd p e q blk) {v:Value} {n:Nat} {G:List (List α)} (hv:RowR H v (evr cd G)) (hl:∀ x∈G,x.length=n) (hG:G.length≤400) (hn:n≤1000) (hn0:0<n) :
    FN Tryz.prog 28 [codv q n v] H (RetG cd q n (lev (vsum n) G) H):=by
  subst hq;exact evened_c Q hv hl hG hn hn0
def ExMo:Prop:=∀ H:AH,FN Tryz.prog 11 [] H (fun r H'=>r=.bool true∧H'=H)
end
end Go.Sim
