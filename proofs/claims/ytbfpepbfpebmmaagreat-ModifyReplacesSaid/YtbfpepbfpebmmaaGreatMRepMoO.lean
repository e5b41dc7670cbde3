/- Part of the proof: MoO. -/
import Derived.Test.YtbfpepbfpebmmaaGreatMRepMoAToMoN
import Derived.Test.YtbfpepbfpebmmaaGreatMRepZMoL
set_option linter.all false
namespace Go.Sim
open Go Go.Proofs
def RowSt (S:Nat→Prop) (H:AH) (v:Value) (css:List (List Value)):Prop:=∀ H':AH,(∀ b,b<H.length→¬S b→H'[b]? = H[b]?)→RowR H' v css
section
variable {S:Nat→Prop} {H H2:AH} {v:Value} {css:List (List Value)}
theorem RowSt.now (h:RowSt S H v css):RowR H v css:=h H fun _ _ _=>rfl
end
section
variable {α:Type} [Fl α] [DecidableEq α] {cd:α→Nat} {p e b c q:Nat} {blk:AB} {H:AH}
def ExMo:Prop:=∀ H:AH,FN Tryz.prog 11 [] H (fun r H'=>r=.bool true∧H'=H)
end
end Go.Sim
