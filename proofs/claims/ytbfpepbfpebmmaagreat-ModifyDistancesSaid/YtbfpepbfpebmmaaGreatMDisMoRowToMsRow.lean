/- Part of the proof: MoRow, MsRow. -/
import Derived.Test.YtbfpepbfpebmmaaGreatMDisSimR3
import Derived.Test.YtbfpepbfpebmmaaGreatMDisMoEx
import Derived.Test.YtbfpepbfpebmmaaGreatMDisMsB
set_option linter.all false
namespace Go.Sim
open Go Go.Proofs
theorem nats8 {ns:List Int} (h:∀ n∈ns,(Lit.int .u8 n).wf=true):∃ us:List Nat,(∀ u∈us,u<256)∧ns.map (Value.int .u8)=us.map bv∧us.length=ns.length:=by
  refine⟨ns.map Int.toNat,fun u hu=>?_,?_,by simp⟩
  · obtain⟨n,hn,rfl⟩:=List.mem_map.1 hu
    have:=h n hn
    simp [Lit.wf,IntKind.min,IntKind.max,IntKind.signed,IntKind.bits] at this
    omega
  · rw [List.map_map]
    refine List.map_congr_left fun n hn=>?_
    have:=h n hn
    simp [Lit.wf,IntKind.min,IntKind.max,IntKind.signed,IntKind.bits] at this
    simp only [Function.comp]
    show Value.int .u8 n=Value.int .u8 ((n.toNat:Nat):Int)
    congr 1
    omega
section
variable {w:World} {H:AH} {i:Inj} {v0 v1 x y:Value} {ns ms:List Int} {a0 a1 a2 b0 b1 b2:Int}
end
end Go.Sim

namespace Go.Sim
open Go Go.Proofs
section
variable {w:World} {H:AH} {i:Inj} {v0 v1 x y:Value} {ns ms:List Int} {a0 a1 a2 b0 b1 b2 j:Int}
theorem dists_walk (hA:ArgR w H i) (R0:VR i (.agg [.int .u8 a0,.int .u8 a1,.int .u8 a2,x].toArray) v0) (X:RowX H x (ns.map (Value.int .u8))) (wx:∀ n∈ns,(Lit.int .u8 n).wf=true) (w0:(Lit.int .u8 a0).wf=true) (w1:(Lit.int .u8 a1).wf=true) (w2:(Lit.int .u8 a2).wf=true)
    (R1:VR i (.agg [.int .u8 b0,.int .u8 b1,.int .u8 b2,y].toArray) v1) (Y:RowX H y (ms.map (Value.int .u8))) (wy:∀ n∈ms,(Lit.int .u8 n).wf=true) (w3:(Lit.int .u8 b0).wf=true) (w4:(Lit.int .u8 b1).wf=true) (w5:(Lit.int .u8 b2).wf=true) (w6:(Lit.int .u8 j).wf=true) :
    Calls Tryz.prog 4 #[v0,v1,.int .u8 j] w fun e w'=>e=.returned (.bool true)∧RowKit.Below w.heap.size w w':=by
  obtain⟨k,rfl,_⟩:=u8_of_wf w0
  obtain⟨n,rfl,_⟩:=u8_of_wf w1
  obtain⟨m,rfl,hm⟩:=u8_of_wf w2
  obtain⟨k2,rfl,_⟩:=u8_of_wf w3
  obtain⟨n2,rfl,hn2⟩:=u8_of_wf w4
  obtain⟨m2,rfl,hm2⟩:=u8_of_wf w5
  obtain⟨i0,rfl,hi0⟩:=u8_of_wf w6
  obtain⟨us,hus,eu,_⟩:=nats8 wx
  obtain⟨ws,hws,ew,_⟩:=nats8 wy
  rw [eu] at X
  rw [ew] at Y
  exact law_walkH hA (.cons R0 (.cons R1 (.cons (VR.of_ground rfl _) .nil))) ((law4 Pf.exMo hm hm2 hn2 hi0 hus hws X.1 Y.1).mono fun _ _ h=>h.1)
end
end Go.Sim
