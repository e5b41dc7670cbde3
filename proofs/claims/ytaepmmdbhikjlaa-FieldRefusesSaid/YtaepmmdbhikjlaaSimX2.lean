/- The semantic simulation logic, part 28: whole numbers that come in. -/
import Derived.Test.YtaepmmdbhikjlaaSimX
namespace Go.Sim
open Go
theorem u8_of_wf {n : Int} (h : (Lit.int .u8 n).wf = true) : ∃ k : Nat, n = (k : Int) ∧ k < 256 := by
  simp [Lit.wf, IntKind.min, IntKind.max, IntKind.signed, IntKind.bits] at h
  exact ⟨n.toNat, by omega, by omega⟩
theorem i64_of_wf {n : Int} (h : (Lit.int .i64 n).wf = true) : -9223372036854775808 ≤ n ∧ n ≤ 9223372036854775807 := by
  simp [Lit.wf, IntKind.min, IntKind.max, IntKind.signed, IntKind.bits] at h
  omega
theorem i16_of_wf {n : Int} (h : (Lit.int .i16 n).wf = true) : -32768 ≤ n ∧ n ≤ 32767 := by
  simp [Lit.wf, IntKind.min, IntKind.max, IntKind.signed, IntKind.bits] at h
  omega
/-- The walk of a law out of its contract. -/
theorem law_walk {P : Program} {f : FuncId} {args : List Value} (h : FN P f args [] (fun v _ => v = .bool true)) (hg : args.all ground = true) (w : World) : Calls P f args.toArray w fun e w' => e = .returned (.bool true) ∧ RowKit.Below w.heap.size w w' := by
  refine (calls_of_F (R := fun v => v = .bool true) h.2 (by simpa [List.all_eq_true] using hg) w ?_).mono ?_
  · rintro v v' i rfl hv; cases hv; rfl
  · rintro e w' ⟨v, rfl, rfl, hb⟩; exact ⟨rfl, hb⟩
end Go.Sim
