/- Part of the proof: TrD. -/
import Derived.Test.YtgcoidbhikfdkaaTZzXfTToTrC
import Derived.Test.YtgcoidbhikfdkaaTTrG1
set_option linter.all false
namespace Go.Sim
open Go Go.Proofs Kr
section
variable {H : AH} {q n k i : Nat}
theorem krawt_c (hq : 2 ≤ q ∧ q ≤ 16) (hn : n ≤ 24) (hk : k ≤ n) (hi : i ≤ n) (hf : q ^ n ≤ 2 ^ 62) :
    FN Try.prog 75 [nv q, nv n, nv k, nv i] H (fun v H' => v = .tuple [zv (Kc q n k i), nv 0].toArray ∧ H' = H) := by
  refine g75_of ?_
  unfold g75
  have e1 : ∀ x : Nat, xbin .lss 0 (nv x) (nv 0) = some (.bool false) := fun x => by simp [xbin]
  have e2 : xbin .gtr 0 (nv k) (nv n) = some (.bool false) := by simp [xbin]; omega
  have e3 : xbin .gtr 0 (nv i) (nv n) = some (.bool false) := by simp [xbin]; omega
  refine FZ.use (inRange_c (q := q) (n := n)) ?_
  rw [decide_eq_true (show 2 ≤ (q : Int) ∧ (q : Int) ≤ 16 ∧ 0 ≤ (n : Int) ∧ (n : Int) ≤ 24 by omega)]
  simp (disch := (first | omega | (simp only [stLen] <;> omega) | (simp only [all_nv]; done) | rfl)) only [zA, zB, zC, zD, zF, zG, zH, Nat.reduceEqDiff, Nat.reduceLT, Nat.reduceLeDiff, ↓reduceIte, e1, e2, e3]
  refine FZ.use (fits_c hq hn (L := 62) (by omega)) ?_
  rw [decide_eq_true hf]
  simp (disch := (first | omega | (simp only [stLen] <;> omega) | (simp only [all_nv]; done) | rfl)) only [zA, zB, zC, zD, zF, zG, zH, Nat.reduceEqDiff, Nat.reduceLT, Nat.reduceLeDiff, ↓reduceIte]
  refine FZ.use (value_c hq hn hk hi hf) ?_
  simp (disch := (first | omega | (simp only [stLen] <;> omega) | (simp only [all_nv]; done) | rfl)) only [zA, zB, zC, zD, zF, zG, zH, Nat.reduceEqDiff, Nat.reduceLT, Nat.reduceLeDiff, ↓reduceIte]
theorem num_c (hq : 2 ≤ q ∧ q ≤ 16) (hn : n ≤ 24) (hk : k ≤ n) (hi : i ≤ n) (hf : q ^ n ≤ 2 ^ 62) :
    FN Try.prog 17 [nv q, nv n, .agg [nv k, nv i].toArray] H (fun v H' => v = .agg [zv (Kc q n k i), nv 0].toArray ∧ H' = H) := by
  refine FN.pre0' (g17_of ?_) (by simp [ground, scal])
  unfold g17
  have ec : cellsL (.agg [nv k, nv i].toArray) = [nv k, nv i] := rfl
  have p0 : xpure (.ixA 2 1) [.pointer (some ⟨H.length, 0, none⟩), nv 0] = some (.pointer (some ⟨H.length, 0, none⟩)) := rfl
  have p1 : xpure (.ixA 2 1) [.pointer (some ⟨H.length, 0, none⟩), nv 1] = some (.pointer (some ⟨H.length, 1, none⟩)) := rfl
  simp (disch := (first | omega | (simp only [stLen] <;> omega) | (simp only [all_nv]; done) | rfl)) only [zA, zB, zC, zD, zF, zG, zH, Nat.reduceEqDiff, Nat.reduceLT, Nat.reduceLeDiff, ↓reduceIte, ec, p0, p1]
  refine FZ.use (krawt_c hq hn hk hi hf) ?_
  have hx : (xfill [nv 0, nv 0] [(0, 1), (1, 1)] [zv (Kc q n k i), nv 0]) = some [zv (Kc q n k i), nv 0] := rfl
  simp (disch := (first | omega | (simp only [stLen] <;> omega) | (simp only [all_nv]; done) | rfl)) only [zA, zB, zC, zD, zF, zG, zH, Nat.reduceEqDiff, Nat.reduceLT, Nat.reduceLeDiff, ↓reduceIte, hx]
  rw [stB2 rfl rfl]
  simp (disch := (first | omega | (simp only [stLen] <;> omega) | (simp only [all_nv]; done) | rfl)) only [zA, zB, zC, zD, zF, zG, zH, Nat.reduceEqDiff, Nat.reduceLT, Nat.reduceLeDiff, ↓reduceIte]
  exact Pre.new _ _
abbrev ub (n : Nat) : Value := .int .u8 (n : Int)
theorem b_rem {a b m : Nat} (h : b ≠ 0) : xbin .rem m (ub a) (ub b) = some (ub (a % b)) := by
  have h1 : (a : Int).tmod (b : Int) = ((a % b : Nat) : Int) := by rw [Int.tmod_eq_emod_of_nonneg (by omega)]; rfl
  simp only [xbin]
  rw [if_pos ⟨trivial, by omega⟩, h1]
theorem b_conv {a : Nat} (h : a < 256) : xpure (.conv .i64) [ub a] = some (nv a) := by
  have : xpure (.conv .i64) [ub a] = some (.int .i64 (IntKind.i64.wrap (a : Int))) := rfl
  rw [this, wrapI (by omega) (by omega)]
def ExOK15 : Prop := ∀ H : AH, FN Try.prog 13 [] H (fun r H' => r = .bool true ∧ H' = H)
theorem pow_le9 {q n : Nat} (hq : 2 ≤ q ∧ q ≤ 5) (hn : n ≤ 9) : q ^ n ≤ 1953125 :=
  Nat.le_trans (Nat.pow_le_pow_left hq.2 n) (Nat.le_trans (Nat.pow_le_pow_right (by omega) hn) (by decide))
theorem Kz_le {q n k i : Nat} (hq : 2 ≤ q ∧ q ≤ 5) (hn : n ≤ 9) (hk : k ≤ n) (hi : i ≤ n) : (Kz q n k i).natAbs ≤ 1953125 := by
  rw [← Kc_eq hq hn hk hi]
  have h := pow_le9 hq hn
  exact Nat.le_trans (sum_le (by omega) (by omega) hk hi (Nat.le_refl _)) h
theorem i_mul {a b : Int} {m : Nat} (ha : a.natAbs ≤ 1953125) (hb : b.natAbs ≤ 1953125) : xbin .mul m (zv a) (zv b) = some (zv (a * b)) := by
  have h : (a * b).natAbs ≤ 1953125 * 1953125 := by rw [Int.natAbs_mul]; exact Nat.mul_le_mul ha hb
  simp only [xbin, if_true]
  rw [wrapI (by omega) (by omega)]
theorem law4 (hx : ExOK15) {H : AH} {k0 k1 k2 k3 : Nat} (h0 : k0 < 256) (h1 : k1 < 256) (h2 : k2 < 256) (h3 : k3 < 256) : FN Try.prog 4 [.agg [ub k0, ub k1, ub k2, ub k3].toArray] H (fun r H' => r = .bool true ∧ H' = H) := by
  refine FN.pre0' (g4_of ?_) rfl
  unfold g4
  have ec : cellsL (.agg [ub k0, ub k1, ub k2, ub k3].toArray) = [ub k0, ub k1, ub k2, ub k3] := rfl
  have p0 : xpure (.ixA 4 1) [.pointer (some ⟨H.length, 0, none⟩), nv 0] = some (.pointer (some ⟨H.length, 0, none⟩)) := rfl
  have p1 : xpure (.ixA 4 1) [.pointer (some ⟨H.length, 0, none⟩), nv 1] = some (.pointer (some ⟨H.length, 1, none⟩)) := rfl
  have p2 : xpure (.ixA 4 1) [.pointer (some ⟨H.length, 0, none⟩), nv 2] = some (.pointer (some ⟨H.length, 2, none⟩)) := rfl
  have p3 : xpure (.ixA 4 1) [.pointer (some ⟨H.length, 0, none⟩), nv 3] = some (.pointer (some ⟨H.length, 3, none⟩)) := rfl
  have r0 : xbin .rem 0 (ub k0) (.int .u8 4) = some (ub (k0 % 4)) := b_rem (b := 4) (by omega)
  have r1 : xbin .rem 0 (ub k1) (.int .u8 10) = some (ub (k1 % 10)) := b_rem (b := 10) (by omega)
  have c0 := b_conv (a := k0 % 4) (by omega)
  have c1 := b_conv (a := k1 % 10) (by omega)
  have c2 := b_conv h2
  have c3 := b_conv h3
  simp (disch := (first | omega | (simp only [stLen] <;> omega) | (simp only [all_nv]; done) | rfl)) only [zA, zB, zC, zD, zF, zG, zH, Nat.reduceEqDiff, Nat.reduceLT, Nat.reduceLeDiff, ↓reduceIte, ec]
  refine FZ.use (hx _) ?_
  simp (disch := (first | omega | (simp only [stLen] <;> omega) | (simp only [all_nv]; done) | rfl)) only [zA, zB, zC, zD, zF, zG, zH, Nat.reduceEqDiff, Nat.reduceLT, Nat.reduceLeDiff, ↓reduceIte, p0, p1, p2, p3, r0, r1, c0, c1, c2, c3]
  have hq : 2 ≤ 2 + k0 % 4 ∧ 2 + k0 % 4 ≤ 5 := by omega
  have hn : k1 % 10 ≤ 9 := by omega
  have ha : k2 % (k1 % 10 + 1) ≤ k1 % 10 := by have := Nat.mod_lt k2 (show 0 < k1 % 10 + 1 by omega); omega
  have hb : k3 % (k1 % 10 + 1) ≤ k1 % 10 := by have := Nat.mod_lt k3 (show 0 < k1 % 10 + 1 by omega); omega
  generalize 2 + k0 % 4 = q at *
  generalize k1 % 10 = n at *
  generalize k2 % (n + 1) = a at *
  generalize k3 % (n + 1) = b at *
  clear c0 c1 c2 c3 r0 r1 h0 h1 h2 h3 p0 p1 p2 p3
  have hq16 : 2 ≤ q ∧ q ≤ 16 := by omega
  have hf9 := pow_le9 hq hn
  have hf : q ^ n ≤ 2 ^ 62 := by omega
  have hnum : ∀ (G : AH) (k i : Nat), k ≤ n → i ≤ n → FN Try.prog 17 [nv q, nv n, .agg [nv k, nv i].toArray] G (fun v H' => v = .agg [zv (Kz q n k i), nv 0].toArray ∧ H' = G) := by
    intro G k i hk hi
    rw [← Kc_eq hq hn hk hi]
    exact num_c hq16 (by omega) hk hi hf
  have hmono : ∀ k, k ≤ n → q ^ k ≤ q ^ n := fun k hk => Nat.pow_le_pow_right (by omega) hk
  have hfl : ∀ x y : Nat, (xfill [nv 0, nv 0] [(0, 1), (1, 1)] [nv x, nv y]) = some [nv x, nv y] := fun x y => rfl
  have hprt : ∀ x : Int, xpure (.prt none 0) [.agg [zv x, nv 0].toArray] = some (zv x) := fun x => rfl
  refine loopV2.nat n (fun k x v H' => v = nv k ∧ Pre H H' ∧ x = nv (q ^ k)) ⟨rfl, Pre.new _ _, by simp⟩ ?_ ?_
  · rintro k x v H1 hk ⟨rfl, hp, rfl⟩ J hJ
    have hm := hmono (k + 1) (by omega)
    have hp1 : q ^ k * q = q ^ (k + 1) := (Nat.pow_succ ..).symm
    have hbd : q ^ k * q < 9223372036854775808 := by omega
    have hk1 : k + 1 < 1000 := by omega
    simp (disch := (first | omega | (simp only [stLen] <;> omega) | (simp only [all_nv]; done) | rfl)) only [zA, zB, zC, zD, zF, zG, zH, Nat.reduceEqDiff, Nat.reduceLT, Nat.reduceLeDiff, ↓reduceIte, hk, hbd, hk1]
    exact hJ _ _ _ ⟨rfl, hp, congrArg (fun x => nv x) hp1⟩
  rintro x v H1 ⟨rfl, hpre, rfl⟩ J
  simp (disch := (first | omega | (simp only [stLen] <;> omega) | (simp only [all_nv]; done) | rfl)) only [zA, zB, zC, zD, zF, zG, zH, Nat.reduceEqDiff, Nat.reduceLT, Nat.reduceLeDiff, ↓reduceIte]
  have hKK : ∀ i, i ≤ n → (Kz q n a i * Kz q n i b).natAbs ≤ 1953125 * 1953125 := by
    intro i hi
    rw [Int.natAbs_mul]
    exact Nat.mul_le_mul (Kz_le hq hn ha hi) (Kz_le hq hn hi hb)
  have hsum : ∀ T, T ≤ n + 1 → (sm T fun i => Kz q n a i * Kz q n i b).natAbs ≤ T * (1953125 * 1953125) := by
    intro T
    induction T with
    | zero => intro _; simp [sm]
    | succ T ih =>
      intro hT
      have h1 := ih (by omega)
      have h2 := hKK T (by omega)
      simp only [sm]
      omega
  refine loopV2.nat (n + 1) (fun i x v H' => v = nv i ∧ Pre H H' ∧ x = zv (sm i fun i => Kz q n a i * Kz q n i b)) ⟨rfl, hpre, rfl⟩ ?_ ?_
  · rintro i x v H2 hi ⟨rfl, hp, rfl⟩ J hJ
    have hin : i ≤ n := by omega
    have ad : xbin .add 0 (zv (sm i fun i => Kz q n a i * Kz q n i b)) (zv (Kz q n a i * Kz q n i b)) = some (zv (sm (i + 1) fun i => Kz q n a i * Kz q n i b)) := by
      have h1 := hsum (i + 1) (by omega)
      simp only [sm] at h1 ⊢
      simp only [xbin, if_true]
      rw [wrapI (by omega) (by omega)]
    have mu := i_mul (m := 0) (Kz_le hq hn ha hin) (Kz_le hq hn hin hb)
    have hk1 : i + 1 < 1000 := by omega
    simp (disch := (first | omega | (simp only [stLen] <;> omega) | (simp only [all_nv]; done) | rfl)) only [zA, zB, zC, zD, zF, zG, zH, Nat.reduceEqDiff, Nat.reduceLT, Nat.reduceLeDiff, ↓reduceIte, hin, hfl]
    refine FZ.use (hnum _ a i ha hin) ?_
    simp (disch := (first | omega | (simp only [stLen] <;> omega) | (simp only [all_nv]; done) | rfl)) only [zA, zB, zC, zD, zF, zG, zH, Nat.reduceEqDiff, Nat.reduceLT, Nat.reduceLeDiff, ↓reduceIte, hprt, hfl]
    refine FZ.use (hnum _ i b hin hb) ?_
    simp (disch := (first | omega | (simp only [stLen] <;> omega) | (simp only [all_nv]; done) | rfl)) only [zA, zB, zC, zD, zF, zG, zH, Nat.reduceEqDiff, Nat.reduceLT, Nat.reduceLeDiff, ↓reduceIte, hprt, mu, ad, hk1]
    exact hJ _ _ _ ⟨rfl, hp, rfl⟩
  rintro x v H2 ⟨rfl, hp, rfl⟩ J2
  have hnn : ¬ n + 1 ≤ n := by omega
  rw [Kz_orth hq hn ha hb]
  simp (disch := (first | omega | (simp only [stLen] <;> omega) | (simp only [all_nv]; done) | rfl)) only [zA, zB, zC, zD, zF, zG, zH, Nat.reduceEqDiff, Nat.reduceLT, Nat.reduceLeDiff, ↓reduceIte, hnn]
  have hx1 := Kz_exch hq hn ha hb
  obtain ⟨c, hc⟩ : ∃ c, c = decide (a = b) := ⟨_, rfl⟩
  have eq1 : xbin .eql 0 (nv a) (nv b) = some (.bool c) := by
    simp only [xbin, if_true]; rw [hc]; congr 2; rw [Bool.eq_iff_iff]; simp; omega
  have ne2 : xbin .neq 0 (nv a) (nv b) = some (.bool !c) := by
    simp only [xbin, if_true]; rw [hc]; congr 2; rw [Bool.eq_iff_iff]; simp; omega
  have hqn : 0 < q ^ n := Nat.pow_pos (by omega)
  have hpc : ((q ^ n : Nat) : Int) = (q : Int) ^ n := by simp
  have ne1 : xbin .neq 0 (zv (if a = b then (q : Int) ^ n else 0)) (nv (q ^ n)) = some (.bool !c) := by
    simp only [xbin, if_true]; rw [hc, hpc]; congr 2; rw [Bool.eq_iff_iff]
    by_cases hab : a = b
    · simp [hab]
    · simp [hab]; omega
  have ne3 : xbin .neq 0 (zv (if a = b then (q : Int) ^ n else 0)) (nv 0) = some (.bool c) := by
    simp only [xbin, if_true]; rw [hc]; congr 2; rw [Bool.eq_iff_iff]
    by_cases hab : a = b
    · simp [hab]; omega
    · simp [hab]
  have m1 := i_mul (m := 0) (Kz_le hq hn hb (Nat.zero_le n)) (Kz_le hq hn ha hb)
  have m2 := i_mul (m := 0) (Kz_le hq hn ha (Nat.zero_le n)) (Kz_le hq hn hb ha)
  rw [hx1] at m1
  have eqz : xbin .eql 0 (zv (Kz q n a 0 * Kz q n b a)) (zv (Kz q n a 0 * Kz q n b a)) = some (.bool true) := by
    simp only [xbin, if_true]; simp
  rw [← hc]
  cases c
  all_goals
    simp (disch := (first | omega | (simp only [stLen] <;> omega) | (simp only [all_nv]; done) | rfl)) only [zA, zB, zC, zD, zF, zG, zH, Nat.reduceEqDiff, Nat.reduceLT, Nat.reduceLeDiff, ↓reduceIte, eq1, ne1, ne2, ne3, hfl]
    refine FZ.use (hnum _ a b ha hb) ?_
    simp (disch := (first | omega | (simp only [stLen] <;> omega) | (simp only [all_nv]; done) | rfl)) only [zA, zB, zC, zD, zF, zG, zH, Nat.reduceEqDiff, Nat.reduceLT, Nat.reduceLeDiff, ↓reduceIte, hfl]
    refine FZ.use (hnum _ b a hb ha) ?_
    simp (disch := (first | omega | (simp only [stLen] <;> omega) | (simp only [all_nv]; done) | rfl)) only [zA, zB, zC, zD, zF, zG, zH, Nat.reduceEqDiff, Nat.reduceLT, Nat.reduceLeDiff, ↓reduceIte, hfl]
    rw [stB2 rfl rfl]
    simp (disch := (first | omega | (simp only [stLen] <;> omega) | (simp only [all_nv]; done) | rfl)) only [zA, zB, zC, zD, zF, zG, zH, Nat.reduceEqDiff, Nat.reduceLT, Nat.reduceLeDiff, ↓reduceIte, hfl]
    rw [stB2 rfl rfl]
    simp (disch := (first | omega | (simp only [stLen] <;> omega) | (simp only [all_nv]; done) | rfl)) only [zA, zB, zC, zD, zF, zG, zH, Nat.reduceEqDiff, Nat.reduceLT, Nat.reduceLeDiff, ↓reduceIte, hfl]
    refine FZ.use (hnum _ b 0 hb (Nat.zero_le n)) ?_
    simp (disch := (first | omega | (simp only [stLen] <;> omega) | (simp only [all_nv]; done) | rfl)) only [zA, zB, zC, zD, zF, zG, zH, Nat.reduceEqDiff, Nat.reduceLT, Nat.reduceLeDiff, ↓reduceIte, hfl]
    refine FZ.use (hnum _ a 0 ha (Nat.zero_le n)) ?_
    simp (disch := (first | omega | (simp only [stLen] <;> omega) | (simp only [all_nv]; done) | rfl)) only [zA, zB, zC, zD, zF, zG, zH, Nat.reduceEqDiff, Nat.reduceLT, Nat.reduceLeDiff, ↓reduceIte, hfl]
    rw [stB2 rfl rfl]
    simp (disch := (first | omega | (simp only [stLen] <;> omega) | (simp only [all_nv]; done) | rfl)) only [zA, zB, zC, zD, zF, zG, zH, Nat.reduceEqDiff, Nat.reduceLT, Nat.reduceLeDiff, ↓reduceIte, hfl]
    rw [stB2 rfl rfl]
    simp (disch := (first | omega | (simp only [stLen] <;> omega) | (simp only [all_nv]; done) | rfl)) only [zA, zB, zC, zD, zF, zG, zH, Nat.reduceEqDiff, Nat.reduceLT, Nat.reduceLeDiff, ↓reduceIte, hfl, m1, m2, eqz]
    exact hp.app _
end
end Go.Sim
