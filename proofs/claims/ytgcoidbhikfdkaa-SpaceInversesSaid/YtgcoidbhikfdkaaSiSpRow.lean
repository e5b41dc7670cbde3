/- Part of the proof: SpRow. -/
import Derived.Test.YtgcoidbhikfdkaaSSimR3
import Derived.Test.YtgcoidbhikfdkaaSiSpG2ToSpL12
import Derived.Test.YtgcoidbhikfdkaaSSpW3ToSpX10
import Derived.Test.YtgcoidbhikfdkaaSPfRefBToZzXfS
import Derived.Test.YtgcoidbhikfdkaaSSpEx
set_option linter.all false
namespace Go.Sim
open Go Go.Proofs
section
variable {w : World} {H : AH} {i : Inj} {v0 v1 v2 x y : Value} {ns ms : List Int} {a0 a1 a2 : Int}
theorem inverses_walk (hA : ArgR w H i) (w0 : (Lit.int .u8 a0).wf = true) (w1 : (Lit.int .u8 a1).wf = true)
    (R1 : VR i y v1) (Y : RowX H y (ms.map (Value.int .u16))) (wy : ∀ n ∈ ms, (Lit.int .u16 n).wf = true) :
    Calls Try.prog 12 #[.int .u8 a0, .int .u8 a1, v1] w fun e w' => e = .returned (.bool true) ∧ RowKit.Below w.heap.size w w' := by
  obtain ⟨k, rfl, hk⟩ := u8_of_wf w0
  obtain ⟨n, rfl, hn⟩ := u8_of_wf w1
  obtain ⟨ws, hws, ew, _⟩ := nats16 wy
  rw [ew] at Y
  exact law_walkH hA (.cons (.int _ _) (.cons (.int _ _) (.cons R1 .nil))) ((law12 Pf.fldOK Pf.exOK hk hn hws Y.1).mono fun _ _ h => h.1)
end
end Go.Sim
