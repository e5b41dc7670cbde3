/- Part of the proof: TrEx. -/
import Derived.Test.YtgcoidbhikfdkaaPTrDToTrL9
import Derived.Test.YtgcoidbhikfdkaaPSimX3ToSimTb
set_option linter.all false
set_option maxRecDepth 100000
namespace Go.Sim
open Go Go.Proofs Kr Tb
noncomputable def oVal : CallT := fun g args H => bif Nat.beq g 117 then match args with
  | [.int .i64 (.ofNat q), .int .i64 (.ofNat n), .int .i64 (.ofNat k), .int .i64 (.ofNat i)] => bif Nat.ble 2 q && Nat.ble q 16 && Nat.ble n 24 && Nat.ble k n && Nat.ble i n && Nat.ble (q ^ n) (2 ^ 62) then match Kc q n k i with
    | .ofNat m => forceN m fun m => some (.int .i64 (.ofNat m), H)
    | .negSucc m => forceN m fun m => some (.int .i64 (.negSucc m), H)
    else none
  | _ => none else none
theorem oVal_ok : CallOk Try.prog oVal := by
  intro g args H v H' h
  unfold oVal at h
  cases hg : Nat.beq g 117 with
  | false => rw [hg] at h; cases h
  | true =>
    rw [hg] at h
    simp only [cond_true] at h
    have hg := Nat.eq_of_beq_eq_true hg
    subst hg
    split at h
    · rename_i q n k i
      cases hk : (Nat.ble 2 q && Nat.ble q 16 && Nat.ble n 24 && Nat.ble k n && Nat.ble i n && Nat.ble (q ^ n) (2 ^ 62)) with
      | false => rw [hk] at h; cases h
      | true =>
        rw [hk] at h
        simp only [cond_true, forceN_eq'] at h
        simp only [Bool.and_eq_true, Nat.ble_eq] at hk
        obtain ⟨⟨⟨⟨⟨h1, h2⟩, h3⟩, h4⟩, h5⟩, h6⟩ := hk
        have hv := value_c (q := q) (n := n) (k := k) (i := i) (H := H) ⟨h1, h2⟩ h3 h4 h5 h6
        have e : v = zv (Kc q n k i) ∧ H' = H := by
          split at h
          · rename_i m hm
            cases h
            exact ⟨by rw [hm], rfl⟩
          · rename_i m hm
            cases h
            exact ⟨by rw [hm], rfl⟩
        obtain ⟨rfl, rfl⟩ := e
        exact ⟨hv, Keep.refl (Nat.le_refl _)⟩
    · cases h
def tabT : List (Option XF) := [none, none, none, none, none, none, none, none, none, none, none, none, none, some ⟨100, [(.tmp 0)], xd13.er⟩, none, none, none, some ⟨22, [(.cell 6 (some 2))], xd17.er⟩, none, some ⟨17, [(.tmp 4)], xd19.er⟩, some ⟨19, [(.cell 6 (some 2))], xd20.er⟩, none, some ⟨17, [(.tmp 4)], xd22.er⟩, some ⟨19, [(.cell 6 (some 2))], xd23.er⟩, some ⟨19, [(.cell 6 (some 2))], xd24.er⟩, none, some ⟨5, [(.cell 2 (some 2))], xd26.er⟩, none, none, none, none, none, none, none, none, none, none, none, none, none, none, none, none, none, none, none, none, none, none, none, none, none, none, none, none, none, none, none, none, none, none, none, none, none, none, none, none, none, none, some ⟨26, [(.tmp 4)], xd69.er⟩, some ⟨26, [(.tmp 4)], xd70.er⟩, none, none, none, none, some ⟨41, [(.tmp 8), (.tmp 9)], xd75.er⟩, none, none, some ⟨105, [(.tmp 6), (.tmp 7)], xd78.er⟩, some ⟨106, [(.tmp 6), (.tmp 7)], xd79.er⟩, some ⟨119, [(.cell 6 none), (.cell 7 none)], xd80.er⟩, none, none, none, none, none, none, none, none, none, none, none, none, none, none, none, none, none, none, none, none, none, none, none, none, none, none, none, none, none, none, none, none, none, none, some ⟨19, [(.tmp 4)], xd115.er⟩, some ⟨30, [(.tmp 6)], xd116.er⟩, none, none, some ⟨15, [(.tmp 4)], xd119.er⟩, some ⟨27, [(.tmp 6)], xd120.er⟩, some ⟨39, [(.cell 4 (some 2)), (.tmp 5)], xd121.er⟩, some ⟨32, [(.tmp 2)], xd122.er⟩, none, some ⟨10, [(.cell 4 (some 2))], xd124.er⟩, some ⟨65, [(.cell 4 (some 2)), (.tmp 5)], xd125.er⟩, some ⟨58, [(.cell 4 (some 2)), (.tmp 5)], xd126.er⟩, some ⟨35, [(.cell 4 (some 2)), (.tmp 5)], xd127.er⟩, none, none, none, none, none, none, none, none, none, none, none, none, none, none, none, none, none, none, none, none, none, none, none, none, none, none, none, none, none, some ⟨51, [(.tmp 4), (.tmp 5)], xd157.er⟩, none, some ⟨3, [(.cell 0 (some 2)), (.tmp 1)], xd159.er⟩, some ⟨24, [(.tmp 2)], xd160.er⟩, some ⟨10, [(.tmp 2)], xd161.er⟩, some ⟨30, [(.cell 4 (some 2)), (.tmp 5)], xd162.er⟩, some ⟨23, [(.cell 4 (some 3))], xd163.er⟩, some ⟨68, [(.cell 4 (some 3))], xd164.er⟩, some ⟨11, [(.tmp 2)], xd165.er⟩, some ⟨19, [(.tmp 6)], xd166.er⟩, some ⟨26, [(.cell 4 (some 3))], xd167.er⟩, none, none, none, none, none, none, none, none, none, none, none, none, none, none, none, none, some ⟨21, [(.tmp 2), (.tmp 3)], xd184.er⟩, none, some ⟨24, [(.tmp 4)], xd186.er⟩, none, some ⟨135, [(.tmp 6), (.tmp 7)], xd188.er⟩]
theorem tabT_ok : TabOk Try.prog 0 tabT := (.n (.n (.n (.n (.n (.n (.n (.n (.n (.n (.n (.n (.n (.s xd13_ok (.n (.n (.n (.s xd17_ok (.n (.s xd19_ok (.s xd20_ok (.n (.s xd22_ok (.s xd23_ok (.s xd24_ok (.n (.s xd26_ok (.n (.n (.n (.n (.n (.n (.n (.n (.n (.n (.n (.n (.n (.n (.n (.n (.n (.n (.n (.n (.n (.n (.n (.n (.n (.n (.n (.n (.n (.n (.n (.n (.n (.n (.n (.n (.n (.n (.n (.n (.n (.n (.s xd69_ok (.s xd70_ok (.n (.n (.n (.n (.s xd75_ok (.n (.n (.s xd78_ok (.s xd79_ok (.s xd80_ok (.n (.n (.n (.n (.n (.n (.n (.n (.n (.n (.n (.n (.n (.n (.n (.n (.n (.n (.n (.n (.n (.n (.n (.n (.n (.n (.n (.n (.n (.n (.n (.n (.n (.n (.s xd115_ok (.s xd116_ok (.n (.n (.s xd119_ok (.s xd120_ok (.s xd121_ok (.s xd122_ok (.n (.s xd124_ok (.s xd125_ok (.s xd126_ok (.s xd127_ok (.n (.n (.n (.n (.n (.n (.n (.n (.n (.n (.n (.n (.n (.n (.n (.n (.n (.n (.n (.n (.n (.n (.n (.n (.n (.n (.n (.n (.n (.s xd157_ok (.n (.s xd159_ok (.s xd160_ok (.s xd161_ok (.s xd162_ok (.s xd163_ok (.s xd164_ok (.s xd165_ok (.s xd166_ok (.s xd167_ok (.n (.n (.n (.n (.n (.n (.n (.n (.n (.n (.n (.n (.n (.n (.n (.n (.s xd184_ok (.n (.s xd186_ok (.n (.s xd188_ok .z)))))))))))))))))))))))))))))))))))))))))))))))))))))))))))))))))))))))))))))))))))))))))))))))))))))))))))))))))))))))))))))))))))))))))))))))))))))))))))))))))))))))))))))))))))))))))))))
def wrT (g : Nat) : Bool := false
theorem exT_run : kChk (callM (xfOf tabT) oVal wrT 100 14 0 13 [] []) (.val (.bool true)) = true := by kernel_rfl
theorem exT_known : KnownOk Try.prog 13 [] (.val (.bool true)) := known_ofM mixed (xfOf_ok tabT_ok) oVal_ok rfl exT_run
theorem exOK15 : ExOK15 := fun H => exT_known H
end Go.Sim
