/- Part of the proof: MoRow. -/
import Derived.Test.YtbfpepbfpebmmaaGreatTLinSimR3
import Derived.Test.YtbfpepbfpebmmaaGreatTLinZPfFieldL
import Derived.Test.YtbfpepbfpebmmaaGreatTLinZPfFieldOToZPfFieldS
import Derived.Test.YtbfpepbfpebmmaaGreatTLinZPfFieldW0
import Derived.Test.YtbfpepbfpebmmaaGreatTLinZPfFieldK
import Derived.Test.YtbfpepbfpebmmaaGreatTLinSimX3ToShD
import Derived.Test.YtbfpepbfpebmmaaGreatTLinShSToXfS
import Derived.Test.YtbfpepbfpebmmaaGreatTLinZShMixToZPfFieldI
import Derived.KernelRfl
import Derived.Test.YtbfpepbfpebmmaaGreatTLinMoAToZTlA
import Derived.Test.YtbfpepbfpebmmaaGreatTLinSimSTToShC
set_option linter.all false
namespace Go.Sim
open Go Go.Proofs
theorem nats8 {ns:List Int} (h:∀ n∈ns,(Lit.int .u8 n).wf=true):∃ us:List Nat,(∀ u∈us,u<256)∧ns.map (Value.int .u8)=us.map bv∧us.length=ns.length:=by
  refine⟨ns.map Int.toNat,fun u hu=>?_,?_,by simp⟩
  · obtain⟨n,hn,rfl⟩:=List.mem_map.1 hu
    have:=h n hn
    simp [Lit.wf,IntKind.min,IntKind.max,IntKind.signed,IntKind.bits] at this
    omega
  · rw [List.map_map]
    refine List.map_congr_left fun n hn=>?_
    have:=h n hn
    simp [Lit.wf,IntKind.min,IntKind.max,IntKind.signed,IntKind.bits] at this
    simp only [Function.comp]
    show Value.int .u8 n=Value.int .u8 ((n.toNat:Nat):Int)
    congr 1
    omega
end Go.Sim
