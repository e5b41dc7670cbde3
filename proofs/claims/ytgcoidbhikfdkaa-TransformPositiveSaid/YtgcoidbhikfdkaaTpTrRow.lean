/- Part of the proof: TrRow. -/
import Derived.Test.YtgcoidbhikfdkaaPSimR3ToSimR4
import Derived.Test.YtgcoidbhikfdkaaPTrDToTrL9
import Derived.Test.YtgcoidbhikfdkaaPTrEx
set_option linter.all false
namespace Go.Sim
open Go Go.Proofs
section
variable {w : World} {H : AH} {i : Inj} {v0 x : Value} {nss : List (List Int)} {a0 a1 : Int}
theorem positive_walk (hA : ArgR w H i) (R0 : VR i (.agg [.int .u8 a0, .int .u8 a1, x].toArray) v0) (X : RowR H x (nss.map fun ns => ns.map (Value.int .u8))) (wx : ∀ ns ∈ nss, ∀ n ∈ ns, (Lit.int .u8 n).wf = true) (w0 : (Lit.int .u8 a0).wf = true) (w1 : (Lit.int .u8 a1).wf = true) :
    Calls Try.prog 5 #[v0] w fun e w' => e = .returned (.bool true) ∧ RowKit.Below w.heap.size w w' := by
  obtain ⟨a, rfl, ha⟩ := u8_of_wf w0
  obtain ⟨b, rfl, hb⟩ := u8_of_wf w1
  obtain ⟨uss, hus, eu⟩ := bytes8 wx
  rw [eu] at X
  exact law_walkH hA (.cons R0 .nil) ((law5 exOK15 ha hb (wss := uss) ⟨X, hus⟩).mono fun _ _ h => h.1)
end
end Go.Sim
