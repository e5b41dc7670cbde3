/- Part of the proof: MtRow. -/
import Derived.Test.YtbfpepbfpebmmaaGreatMMatMoRow
import Derived.Test.YtbfpepbfpebmmaaGreatMMatMtL
set_option linter.all false
namespace Go.Sim
open Go Go.Proofs
section
variable {w:World} {H:AH} {i:Inj} {v0 v1 x y:Value} {ns ms:List Int} {a0 a1 a2 b0 b1 b2:Int}
theorem mref_walk (hA:ArgR w H i) (R0:VR i (.agg [.int .u8 a0,.int .u8 a1,.int .u8 a2,x].toArray) v0) (X:RowX H x (ns.map (Value.int .u8))) (wx:∀ n∈ns,(Lit.int .u8 n).wf=true) (w0:(Lit.int .u8 a0).wf=true) (w1:(Lit.int .u8 a1).wf=true) (w2:(Lit.int .u8 a2).wf=true)
    (R1:VR i (.agg [.int .u8 b0,.int .u8 b1,.int .u8 b2,y].toArray) v1) (Y:RowX H y (ms.map (Value.int .u8))) (wy:∀ n∈ms,(Lit.int .u8 n).wf=true) (w3:(Lit.int .u8 b0).wf=true) (w4:(Lit.int .u8 b1).wf=true) (w5:(Lit.int .u8 b2).wf=true)
    {zs:List Int} (hl:zs.length=6) (wz:∀ n∈zs,(Lit.int .u8 n).wf=true) :
    Calls Tryz.prog 3 #[v0,v1,.agg (zs.map (Value.int .u8)).toArray] w fun e w'=>e=.returned (.bool true)∧RowKit.Below w.heap.size w w':=by
  obtain⟨k,rfl,_⟩:=qdn w0
  obtain⟨n,rfl,_⟩:=qdn w1
  obtain⟨m,rfl,hm⟩:=qdn w2
  obtain⟨k2,rfl,_⟩:=qdn w3
  obtain⟨n2,rfl,hn2⟩:=qdn w4
  obtain⟨m2,rfl,hm2⟩:=qdn w5
  obtain⟨us,hus,eu,_⟩:=nats8 wx
  obtain⟨ws,hws,ew,_⟩:=nats8 wy
  obtain⟨z0,z1,z2,z3,z4,z5,rfl,hz⟩:=ints6 hl wz
  rw [eu] at X
  rw [ew] at Y
  exact law_walkH hA (.cons R0 (.cons R1 (.cons (VR.intsA _) .nil))) ((law3 Pf.exMo hm hm2 hn2 hz hus hws X.1 Y.1).mono fun _ _ h=>h.1)
end
end Go.Sim
