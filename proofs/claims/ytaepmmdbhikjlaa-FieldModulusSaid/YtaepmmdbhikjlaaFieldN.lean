/- Part of the proof: FieldN. -/
import Derived.Test.YtaepmmdbhikjlaaFieldM
import Derived.Test.YtaepmmdbhikjlaaFieldK
import Derived.Test.YtaepmmdbhikjlaaSimX2
set_option maxRecDepth 100000
namespace Go.Sim
open Go Go.Proofs

theorem ex_run : kAll xfT oMul 100 12 9 [([], .val (.bool true))] = true := by kernel_rfl
theorem ex_ok : KTabOk Try.prog 9 [([], .val (.bool true))] := KTabOk.of mixed xfT_ok oMul_ok ex_run
noncomputable def oEx : CallT := oKn 9 [([], .val (.bool true))]
noncomputable def oMod : CallT := orO oEx (orO (oKn 39 kOrders) (orO (oKn 10 kMake) (orO (oKn 40 kPrime) (oKn 41 kProd))))
theorem oMod_ok : CallOk Try.prog oMod := (oKn_ok ex_ok).or ((oKn_ok kOrders_ok).or ((oKn_ok kMake_ok).or ((oKn_ok kPrime_ok).or (oKn_ok kProd_ok))))
def kModT (s n : Nat) : KTab := (List.range' s n).map fun k => ([.int .u8 (.ofNat k)], .val (.bool true))
theorem kMod0_run : kAll xfT oMod 100 12 7 (kModT 0 32) = true := by kernel_rfl
theorem kMod1_run : kAll xfT oMod 100 12 7 (kModT 32 32) = true := by kernel_rfl
theorem kMod2_run : kAll xfT oMod 100 12 7 (kModT 64 32) = true := by kernel_rfl
theorem kMod3_run : kAll xfT oMod 100 12 7 (kModT 96 32) = true := by kernel_rfl
theorem kMod4_run : kAll xfT oMod 100 12 7 (kModT 128 32) = true := by kernel_rfl
theorem kMod5_run : kAll xfT oMod 100 12 7 (kModT 160 32) = true := by kernel_rfl
theorem kMod6_run : kAll xfT oMod 100 12 7 (kModT 192 32) = true := by kernel_rfl
theorem kMod7_run : kAll xfT oMod 100 12 7 (kModT 224 32) = true := by kernel_rfl
theorem kMod_ok (n : Nat) (h : n < 256) : KnownOk Try.prog 7 [.int .u8 n] (.val (.bool true)) := by
  have key : ∀ s, kAll xfT oMod 100 12 7 (kModT s 32) = true → s ≤ n → n < s + 32 → KnownOk Try.prog 7 [.int .u8 n] (.val (.bool true)) := fun s hs h1 h2 =>
    KTabOk.of mixed xfT_ok oMod_ok hs ([.int .u8 n], .val (.bool true)) (List.mem_map.2 ⟨n, List.mem_range'_1.2 ⟨h1, h2⟩, rfl⟩)
  rcases Nat.lt_or_ge n 32 with h0 | h0
  · exact key 0 kMod0_run (by omega) (by omega)
  rcases Nat.lt_or_ge n 64 with h1 | h1
  · exact key 32 kMod1_run (by omega) (by omega)
  rcases Nat.lt_or_ge n 96 with h2 | h2
  · exact key 64 kMod2_run (by omega) (by omega)
  rcases Nat.lt_or_ge n 128 with h3 | h3
  · exact key 96 kMod3_run (by omega) (by omega)
  rcases Nat.lt_or_ge n 160 with h4 | h4
  · exact key 128 kMod4_run (by omega) (by omega)
  rcases Nat.lt_or_ge n 192 with h5 | h5
  · exact key 160 kMod5_run (by omega) (by omega)
  rcases Nat.lt_or_ge n 224 with h6 | h6
  · exact key 192 kMod6_run (by omega) (by omega)
  rcases Nat.lt_or_ge n 256 with h7 | h7
  · exact key 224 kMod7_run (by omega) (by omega)
  omega
theorem mod_walk2 (a : Int) (h : (Lit.int .u8 a).wf = true) (w : World) : Calls Try.prog 7 #[.int .u8 a] w fun e w' => e = .returned (.bool true) ∧ RowKit.Below w.heap.size w w' := by
  obtain ⟨n, rfl, hn⟩ := u8_of_wf h
  exact law_walk (args := [.int .u8 n]) ((kMod_ok n hn []).mono (by rintro _ _ ⟨rfl, rfl⟩; rfl)) rfl w
end Go.Sim
