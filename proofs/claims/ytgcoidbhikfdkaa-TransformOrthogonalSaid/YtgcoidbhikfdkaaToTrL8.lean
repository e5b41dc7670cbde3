/- Part of the proof: TrL8. -/
import Derived.Test.YtgcoidbhikfdkaaTTrD
import Derived.Test.YtgcoidbhikfdkaaTTrEx
import Derived.Test.YtgcoidbhikfdkaaTSimX2ToSimTb
set_option linter.all false
namespace Go.Sim
open Go Go.Proofs
theorem list4 {ns : List Int} (hl : ns.length = 4) : ∃ x a b c, ns = [x, a, b, c] := by
  match ns, hl with
  | [x, a, b, c], _ => exact ⟨x, a, b, c, rfl⟩
theorem orth_walk (ns : List Int) (hl : ns.length = 4) (hw : ∀ n ∈ ns, (Lit.int .u8 n).wf = true) (w : World) : Calls Try.prog 4 #[.agg (ns.map (Value.int .u8)).toArray] w fun e w' => e = .returned (.bool true) ∧ RowKit.Below w.heap.size w w' := by
  obtain ⟨x, a, b, c, rfl⟩ := list4 hl
  obtain ⟨x, rfl, hx⟩ := u8_of_wf (hw x (by simp))
  obtain ⟨a, rfl, ha⟩ := u8_of_wf (hw a (by simp))
  obtain ⟨b, rfl, hb⟩ := u8_of_wf (hw b (by simp))
  obtain ⟨c, rfl, hc⟩ := u8_of_wf (hw c (by simp))
  have key := law_walk (args := [.agg [ub x, ub a, ub b, ub c].toArray]) ((law4 exOK15 hx ha hb hc).mono fun _ _ h => h.1) (by simp [ground, scal]) w
  simp only [List.map_cons, List.map_nil]
  exact key
end Go.Sim
