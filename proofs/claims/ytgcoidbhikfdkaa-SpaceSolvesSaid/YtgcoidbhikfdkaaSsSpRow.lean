/- Part of the proof: SpRow. -/
import Derived.Test.YtgcoidbhikfdkaaSSimR3
import Derived.Test.YtgcoidbhikfdkaaSsSpG2ToSpL10
import Derived.Test.YtgcoidbhikfdkaaSSpW3ToSpX10
import Derived.Test.YtgcoidbhikfdkaaSPfRefBToZzXfS
import Derived.Test.YtgcoidbhikfdkaaSSpEx
set_option linter.all false
namespace Go.Sim
open Go Go.Proofs
section
variable {w : World} {H : AH} {i : Inj} {v0 v1 v2 x y : Value} {ns ms : List Int} {a0 a1 a2 : Int}
theorem solves_walk (hA : ArgR w H i) (R0 : VR i (.agg [.int .u8 a0, .int .u8 a1, .int .u8 a2, x].toArray) v0) (X : RowX H x (ns.map (Value.int .u16))) (wx : ∀ n ∈ ns, (Lit.int .u16 n).wf = true) (w0 : (Lit.int .u8 a0).wf = true) (w1 : (Lit.int .u8 a1).wf = true) (w2 : (Lit.int .u8 a2).wf = true)
    (R1 : VR i y v1) (Y : RowX H y (ms.map (Value.int .u16))) (wy : ∀ n ∈ ms, (Lit.int .u16 n).wf = true) {a : Int} (wa : (Lit.int .u8 a).wf = true) :
    Calls Try.prog 10 #[v0, v1, .int .u8 a] w fun e w' => e = .returned (.bool true) ∧ RowKit.Below w.heap.size w w' := by
  obtain ⟨k, rfl, hk⟩ := u8_of_wf w0
  obtain ⟨n, rfl, hn⟩ := u8_of_wf w1
  obtain ⟨m, rfl, hm⟩ := u8_of_wf w2
  obtain ⟨z, rfl, hz⟩ := u8_of_wf wa
  obtain ⟨us, hus, eu, _⟩ := nats16 wx
  obtain ⟨ws, hws, ew, _⟩ := nats16 wy
  rw [eu] at X
  rw [ew] at Y
  exact law_walkH hA (.cons R0 (.cons R1 (.cons (.int _ _) .nil))) ((law10 Pf.fldOK Pf.exOK hk hn hm hz hus X.1 hws Y.1).mono fun _ _ h => h.1)
end
end Go.Sim
