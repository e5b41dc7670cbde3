/- Part of the proof: TmRow. -/
import Derived.Test.YtbfpepbfpebmmaaGreatTLinMoRow
import Derived.Test.YtbfpepbfpebmmaaGreatTLinZTrFToTlI
set_option linter.all false
namespace Go.Sim
open Go Go.Proofs
section
variable {w:World} {H:AH} {i:Inj} {v0 x:Value} {ns:List Int} {a0 a1 a2:Int}
theorem tlinear_walk (hA:ArgR w H i) (R0:VR i (.agg [.int .u8 a0,.int .u8 a1,.int .u8 a2,x].toArray) v0) (X:RowX H x (ns.map (Value.int .u8))) (wx:∀ n∈ns,(Lit.int .u8 n).wf=true) (w0:(Lit.int .u8 a0).wf=true) (w1:(Lit.int .u8 a1).wf=true) (w2:(Lit.int .u8 a2).wf=true) :
    Calls Tryz.prog 9 #[v0] w fun e w'=>e=.returned (.bool true)∧RowKit.Below w.heap.size w w':=by
  obtain⟨k,rfl,_⟩:=u8_of_wf w0
  obtain⟨n,rfl,_⟩:=u8_of_wf w1
  obtain⟨m,rfl,hm⟩:=u8_of_wf w2
  obtain⟨us,hus,eu,_⟩:=nats8 wx
  rw [eu] at X
  exact law_walkH hA (.cons R0 .nil) ((law9 hm hus X.1).mono fun _ _ h=>h.1)
end
end Go.Sim
