/- Part of the proof: SpRow. -/
import Derived.Test.YtgcoidbhikfdkaaSSimR3
import Derived.Test.YtgcoidbhikfdkaaSlSpG2ToSpL11
import Derived.Test.YtgcoidbhikfdkaaSSpW3ToSpX10
import Derived.Test.YtgcoidbhikfdkaaSPfRefBToZzXfS
import Derived.Test.YtgcoidbhikfdkaaSSpEx
set_option linter.all false
namespace Go.Sim
open Go Go.Proofs
section
variable {w : World} {H : AH} {i : Inj} {v0 v1 v2 x y : Value} {ns ms : List Int} {a0 a1 a2 : Int}
theorem ints2 {zs : List Int} (hl : zs.length = 2) (hw : ∀ n ∈ zs, (Lit.int .u8 n).wf = true) : ∃ z0 z1 : Nat, zs = [(z0 : Int), z1] ∧ z0 < 256 ∧ z1 < 256 := by
  match zs, hl with
  | [b0, b1], _ =>
    obtain ⟨z0, rfl, h0⟩ := u8_of_wf (hw b0 (by simp))
    obtain ⟨z1, rfl, h1⟩ := u8_of_wf (hw b1 (by simp))
    exact ⟨z0, z1, rfl, h0, h1⟩
theorem lattice_walk (hA : ArgR w H i) (R0 : VR i (.agg [.int .u8 a0, .int .u8 a1, .int .u8 a2, x].toArray) v0) (X : RowX H x (ns.map (Value.int .u16))) (wx : ∀ n ∈ ns, (Lit.int .u16 n).wf = true) (w0 : (Lit.int .u8 a0).wf = true) (w1 : (Lit.int .u8 a1).wf = true) (w2 : (Lit.int .u8 a2).wf = true)
    (R1 : VR i y v1) (Y : RowX H y (ms.map (Value.int .u16))) (wy : ∀ n ∈ ms, (Lit.int .u16 n).wf = true) (hsz : ms.length * 2 ≤ reachBytes) {zs : List Int} (hl : zs.length = 2) (wz : ∀ n ∈ zs, (Lit.int .u8 n).wf = true) :
    Calls Try.prog 11 #[v0, v1, .agg (zs.map (Value.int .u8)).toArray] w fun e w' => e = .returned (.bool true) ∧ RowKit.Below w.heap.size w w' := by
  obtain ⟨k, rfl, hk⟩ := u8_of_wf w0
  obtain ⟨n, rfl, hn⟩ := u8_of_wf w1
  obtain ⟨m, rfl, hm⟩ := u8_of_wf w2
  obtain ⟨us, hus, eu, _⟩ := nats16 wx
  obtain ⟨ws, hws, ew, lw⟩ := nats16 wy
  obtain ⟨z0, z1, rfl, h0, h1⟩ := ints2 hl wz
  rw [eu] at X
  rw [ew] at Y
  have hr : reachBytes ≤ 140737488351232 := by decide
  exact law_walkH hA (.cons R0 (.cons R1 (.cons (VR.intsA _) .nil))) ((law11 Pf.fldOK Pf.exOK hk hn hm h0 h1 hus X.1 hws Y (by omega)).mono fun _ _ h => h.1)
end
end Go.Sim
