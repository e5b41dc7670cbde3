/- Part of the proof: MoRow. -/
import Derived.Test.YtbfpepbfpebmmaaGreatMMatSimR3
import Derived.Test.YtbfpepbfpebmmaaGreatMMatMoEx
set_option linter.all false
namespace Go.Sim
open Go Go.Proofs
theorem nats8 {ns:List Int} (h:∀ n∈ns,(Lit.int .u8 n).wf=true):∃ us:List Nat,(∀ u∈us,u<256)∧ns.map (Value.int .u8)=us.map bv∧us.length=ns.length:=by
  refine⟨ns.map Int.toNat,fun u hu=>?_,?_,by simp⟩
  · obtain⟨n,hn,rfl⟩:=List.mem_map.1 hu
    have:=h n hn
    simp [Lit.wf,IntKind.min,IntKind.max,IntKind.signed,IntKind.bits] at this
    omega
  · rw [List.map_map]
    refine List.map_congr_left fun n hn=>?_
    have:=h n hn
    simp [Lit.wf,IntKind.min,IntKind.max,IntKind.signed,IntKind.bits] at this
    simp only [Function.comp]
    show Value.int .u8 n=Value.int .u8 ((n.toNat:Nat):Int)
    congr 1
    omega
theorem ints6 {zs:List Int} (hl:zs.length=6) (hw:∀ n∈zs,(Lit.int .u8 n).wf=true):∃ z0 z1 z2 z3 z4 z5:Nat,zs=[(z0:Int),z1,z2,z3,z4,z5]∧∀ z∈[z0,z1,z2,z3,z4,z5],z<256:=by
  match zs,hl with
  | [b0,b1,b2,b3,b4,b5],_ =>
    obtain⟨z0,rfl,h0⟩:=qdn (hw b0 (by simp))
    obtain⟨z1,rfl,h1⟩:=qdn (hw b1 (by simp))
    obtain⟨z2,rfl,h2⟩:=qdn (hw b2 (by simp))
    obtain⟨z3,rfl,h3⟩:=qdn (hw b3 (by simp))
    obtain⟨z4,rfl,h4⟩:=qdn (hw b4 (by simp))
    obtain⟨z5,rfl,h5⟩:=qdn (hw b5 (by simp))
    refine⟨z0,z1,z2,z3,z4,z5,rfl,fun z hz=>?_⟩
    simp only [List.mem_cons,List.not_mem_nil,or_false] at hz
    rcases hz with rfl|rfl|rfl|rfl|rfl|rfl<;>assumption
section
variable {w:World} {H:AH} {i:Inj} {v0 v1 x y:Value} {ns ms:List Int} {a0 a1 a2 b0 b1 b2:Int}
end
end Go.Sim
