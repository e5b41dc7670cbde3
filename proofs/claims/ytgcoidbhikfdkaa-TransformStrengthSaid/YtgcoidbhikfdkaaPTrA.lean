/- Part of the proof: TrA. -/
import Derived.Test.YtgcoidbhikfdkaaPRtIToShFr
import Derived.Test.YtgcoidbhikfdkaaPTrPToTrK
set_option linter.all false
namespace Go.Sim
open Go Go.Proofs Kr
section
variable {H : AH}
theorem u_neq0 {x m : Nat} : xbin .neq m (uw x) (.int .u64 0) = some (.bool (!decide (x = 0))) := by
  simp only [xbin, if_true]; congr 2; rw [Bool.eq_iff_iff]; simp
theorem inRange_c {q n : Int} : FN Try.prog 115 [zv q, zv n] H (fun r H' => r = .bool (decide (2 ≤ q ∧ q ≤ 16 ∧ 0 ≤ n ∧ n ≤ 24)) ∧ H' = H) := by
  refine g115_of ?_
  unfold g115
  have e1 : xbin .geq 0 (zv q) (nv 2) = some (.bool (decide (2 ≤ q))) := by simp [xbin]
  have e2 : xbin .leq 0 (zv q) (nv 16) = some (.bool (decide (q ≤ 16))) := by simp [xbin]
  have e3 : xbin .geq 0 (zv n) (nv 0) = some (.bool (decide (0 ≤ n))) := by simp [xbin]
  have e4 : xbin .leq 0 (zv n) (nv 24) = some (.bool (decide (n ≤ 24))) := by simp [xbin]
  by_cases h1 : 2 ≤ q
  · rw [decide_eq_true h1] at e1
    by_cases h2 : q ≤ 16
    · rw [decide_eq_true h2] at e2
      by_cases h3 : 0 ≤ n
      · rw [decide_eq_true h3] at e3
        simp (disch := (first | omega | (simp only [stLen] <;> omega) | (simp only [all_nv]; done) | rfl)) only [zA, zB, zC, zD, zF, zG, zH, Nat.reduceEqDiff, Nat.reduceLT, Nat.reduceLeDiff, ↓reduceIte, e1, e2, e3, e4]
        congr 1
        rw [decide_eq_decide]
        exact ⟨fun h => ⟨h1, h2, h3, h⟩, fun h => h.2.2.2⟩
      · rw [decide_eq_false h3] at e3
        simp (disch := (first | omega | (simp only [stLen] <;> omega) | (simp only [all_nv]; done) | rfl)) only [zA, zB, zC, zD, zF, zG, zH, Nat.reduceEqDiff, Nat.reduceLT, Nat.reduceLeDiff, ↓reduceIte, e1, e2, e3, e4]
        rw [decide_eq_false]; exact fun h => h3 h.2.2.1
    · rw [decide_eq_false h2] at e2
      simp (disch := (first | omega | (simp only [stLen] <;> omega) | (simp only [all_nv]; done) | rfl)) only [zA, zB, zC, zD, zF, zG, zH, Nat.reduceEqDiff, Nat.reduceLT, Nat.reduceLeDiff, ↓reduceIte, e1, e2, e3, e4]
      rw [decide_eq_false]; exact fun h => h2 h.2.1
  · rw [decide_eq_false h1] at e1
    simp (disch := (first | omega | (simp only [stLen] <;> omega) | (simp only [all_nv]; done) | rfl)) only [zA, zB, zC, zD, zF, zG, zH, Nat.reduceEqDiff, Nat.reduceLT, Nat.reduceLeDiff, ↓reduceIte, e1, e2, e3, e4]
    rw [decide_eq_false]; exact fun h => h1 h.1
theorem fits_c {q n L : Nat} (hq : 2 ≤ q ∧ q ≤ 16) (hn : n ≤ 24) (hL : L ≤ 62) : FN Try.prog 116 [nv q, nv n, nv L] H (fun r H' => r = .bool (decide (q ^ n ≤ 2 ^ L)) ∧ H' = H) := by
  refine g116_of ?_
  unfold g116
  have hLL : 2 ^ L ≤ 2 ^ 62 := Nat.pow_le_pow_right (by omega) hL
  have hmono : ∀ k, k ≤ n → q ^ k ≤ q ^ n := fun k hk => Nat.pow_le_pow_right (by omega) hk
  refine loopV2.nat n (fun k x v H' => v = nv k ∧ H' = H ∧ x = uw (q ^ k) ∧ q ^ k ≤ 2 ^ L) ⟨rfl, rfl, by simp, by simpa using Nat.one_le_two_pow⟩ ?_ ?_
  · rintro k x v H1 hk ⟨rfl, rfl, rfl, hx⟩ J hJ
    have u1 := c_u64 (d := q) (by omega)
    simp (disch := (first | omega | (simp only [stLen] <;> omega) | (simp only [all_nv]; done) | rfl)) only [zA, zB, zC, zD, zF, zG, zH, Nat.reduceEqDiff, Nat.reduceLT, Nat.reduceLeDiff, ↓reduceIte, hk, u1]
    refine FZ.use (mul64_c (by omega) (by omega)) ?_
    have hp : q ^ k * q = q ^ (k + 1) := (Nat.pow_succ ..).symm
    have hpl : q ^ k * q ≤ 2 ^ 62 * 16 := Nat.mul_le_mul (by omega) hq.2
    rw [hp] at hpl ⊢
    have hn' := hmono (k + 1) (by omega)
    have hk1 : k + 1 < 1000 := by omega
    have e1 : xbin .neq 0 (uw (q ^ (k + 1) / 18446744073709551616)) (.int .u64 0) = some (.bool (!decide (q ^ (k + 1) / 18446744073709551616 = 0))) := by
      exact u_neq0
    have e2 : xbin .shl 0 (.int .u64 1) (nv L) = some (uw (2 ^ L)) := by
      have : xbin .shl 0 (.int .u64 1) (nv L) = some (.int .u64 (IntKind.u64.wrap (1 * 2 ^ (min L 64)))) := by
        simp only [xbin]; rw [if_pos (by omega)]; rfl
      rw [this, wrapU, Nat.min_eq_left (by omega), Int.one_mul]
      have h2 : ((2 : Int) ^ L) = ((2 ^ L : Nat) : Int) := by simp
      rw [h2]
      congr 2; omega
    have e3 := u_gtr (a := q ^ (k + 1) % 18446744073709551616) (b := 2 ^ L) (m := 0)
    by_cases h0 : q ^ (k + 1) / 18446744073709551616 = 0
    · rw [decide_eq_true h0] at e1
      by_cases h1 : 2 ^ L < q ^ (k + 1) % 18446744073709551616
      · rw [decide_eq_true h1] at e3
        simp (disch := (first | omega | (simp only [stLen] <;> omega) | (simp only [all_nv]; done) | rfl)) only [zA, zB, zC, zD, zF, zG, zH, Nat.reduceEqDiff, Nat.reduceLT, Nat.reduceLeDiff, ↓reduceIte, e1, e2, e3]
        rw [decide_eq_false]; omega
      · rw [decide_eq_false h1] at e3
        simp (disch := (first | omega | (simp only [stLen] <;> omega) | (simp only [all_nv]; done) | rfl)) only [zA, zB, zC, zD, zF, zG, zH, Nat.reduceEqDiff, Nat.reduceLT, Nat.reduceLeDiff, ↓reduceIte, e1, e2, e3, hk1]
        refine hJ _ _ _ ⟨rfl, rfl, ?_, by omega⟩
        rw [Nat.mod_eq_of_lt (by omega)]
    · rw [decide_eq_false h0] at e1
      simp (disch := (first | omega | (simp only [stLen] <;> omega) | (simp only [all_nv]; done) | rfl)) only [zA, zB, zC, zD, zF, zG, zH, Nat.reduceEqDiff, Nat.reduceLT, Nat.reduceLeDiff, ↓reduceIte, e1]
      rw [decide_eq_false]; omega
  · rintro x v H1 ⟨rfl, rfl, rfl, hx⟩ J
    simp (disch := (first | omega | (simp only [stLen] <;> omega) | (simp only [all_nv]; done) | rfl)) only [zA, zB, zC, zD, zF, zG, zH, Nat.reduceEqDiff, Nat.reduceLT, Nat.reduceLeDiff, ↓reduceIte]
    rw [decide_eq_true hx]
theorem power_c {a n : Nat} (ha : 1 ≤ a) (hn : n ≤ 24) (h : a ^ n < 9223372036854775808) : FN Try.prog 119 [nv a, nv n] H (fun r H' => r = nv (a ^ n) ∧ H' = H) := by
  refine g119_of ?_
  unfold g119
  have hmono : ∀ k, k ≤ n → a ^ k ≤ a ^ n := fun k hk => Nat.pow_le_pow_right ha hk
  refine loopV2.nat n (fun k x v H' => v = nv k ∧ H' = H ∧ x = nv (a ^ k)) ⟨rfl, rfl, by simp⟩ ?_ ?_
  · rintro k x v H1 hk ⟨rfl, rfl, rfl⟩ J hJ
    have hp : a ^ k * a = a ^ (k + 1) := (Nat.pow_succ ..).symm
    have := hmono (k + 1) (by omega)
    have hb : a ^ k * a < 9223372036854775808 := by omega
    have hk1 : k + 1 < 1000 := by omega
    simp (disch := (first | omega | (simp only [stLen] <;> omega) | (simp only [all_nv]; done) | rfl)) only [zA, zB, zC, zD, zF, zG, zH, Nat.reduceEqDiff, Nat.reduceLT, Nat.reduceLeDiff, ↓reduceIte, hk, hb, hk1]
    exact hJ _ _ _ ⟨rfl, rfl, congrArg (fun x => nv x) hp⟩
  · rintro x v H1 ⟨rfl, rfl, rfl⟩ J
    simp (disch := (first | omega | (simp only [stLen] <;> omega) | (simp only [all_nv]; done) | rfl)) only [zA, zB, zC, zD, zF, zG, zH, Nat.reduceEqDiff, Nat.reduceLT, Nat.reduceLeDiff, ↓reduceIte]
theorem chS_tab : (allB 25 fun n => allB 25 fun i => decide (chS n i * (n - i) < 4611686018427387904) && decide (chS n i < 4611686018427387904)) = true := by decide +kernel
theorem chS_le {n i : Nat} (hn : n ≤ 24) (hi : i ≤ 24) : chS n i * (n - i) < 4611686018427387904 ∧ chS n i < 4611686018427387904 := by
  have h := allB_spec (allB_spec chS_tab n (by omega)) i (by omega)
  simp only [Bool.and_eq_true, decide_eq_true_eq] at h
  exact h
theorem choose_c {n k : Nat} (hn : n ≤ 24) (hk : k ≤ n) : FN Try.prog 183 [nv n, nv k] H (fun r H' => r = nv (chF n k) ∧ H' = H) := by
  refine g183_of ?_
  unfold g183
  have e1 : xpure .min2 [nv k, nv (n - k)] = some (nv (min k (n - k))) := by
    simp only [xpure]
    rcases Nat.le_total k (n - k) with h | h
    · rw [Nat.min_eq_left h]; simp; omega
    · rw [Nat.min_eq_right h]; simp; omega
  have hkn : ¬ n < k := by omega
  have hle : min k (n - k) ≤ 24 := by omega
  have hln : min k (n - k) ≤ n := by omega
  unfold chF
  rw [if_neg hkn]
  simp (disch := (first | omega | (simp only [stLen] <;> omega) | (simp only [all_nv]; done) | rfl)) only [zA, zB, zC, zD, zF, zG, zH, Nat.reduceEqDiff, Nat.reduceLT, Nat.reduceLeDiff, ↓reduceIte, hk, hkn, e1]
  generalize min k (n - k) = m at *
  refine loopV2.nat m (fun i x v H' => v = nv i ∧ H' = H ∧ x = nv (chS n i)) ⟨rfl, rfl, by simp [chS]⟩ ?_ ?_
  · rintro i x v H1 hi ⟨rfl, rfl, rfl⟩ J hJ
    have hb := (chS_le hn (show i ≤ 24 by omega)).1
    have hi2 : i ≤ n := by omega
    have hi1 : i + 1 < 1000 := by omega
    simp (disch := (first | omega | (simp only [stLen] <;> omega) | (simp only [all_nv]; done) | rfl)) only [zA, zB, zC, zD, zF, zG, zH, Nat.reduceEqDiff, Nat.reduceLT, Nat.reduceLeDiff, ↓reduceIte, hi, hi2, hb, hi1]
    exact hJ _ _ _ ⟨rfl, rfl, rfl⟩
  · rintro x v H1 ⟨rfl, rfl, rfl⟩ J
    simp (disch := (first | omega | (simp only [stLen] <;> omega) | (simp only [all_nv]; done) | rfl)) only [zA, zB, zC, zD, zF, zG, zH, Nat.reduceEqDiff, Nat.reduceLT, Nat.reduceLeDiff, ↓reduceIte]
end
end Go.Sim
