/- Part of the proof: ZzXfT, TrB, TrC. -/
import Derived.Test.YtgcoidbhikfdkaaPXfS
import Derived.Test.YtgcoidbhikfdkaaPShMix
import Derived.KernelRfl
import Derived.Test.YtgcoidbhikfdkaaPTrA
import Derived.Test.YtgcoidbhikfdkaaPSimWToShC
set_option linter.all false
set_option maxRecDepth 100000
namespace Go.Sim
open Go Go.Proofs
def xf117 : XF := ⟨21, [(.tmp 8)], (.seq (.reg [eS 0 8 .mov [pC (nv 0)]]) (.seq (.reg [eS 0 9 (.new [(nv 0)] 3) [], eN 1 (.st 1) [pT 9, pC (nv 0)]]) (.seq (.seq (.reg [eS 0 11 .mov [pT 0], eS 1 12 .mov [pT 1], eS 2 13 .mov [pT 2], eS 3 14 .mov [pT 3], eS 4 15 .call [(.func 158), pT 11, pT 12, pT 13, pT 14]]) (.block 0 (.range (.tmp 15) #[16] (.reg [eS 0 10 .mov [pT 16]]) (.block 1 (.reg [eS 0 17 (.ld none) [pT 9], eS 1 18 .mov [pT 10], eS 2 19 (.bin .add 0) [pT 17, pT 18], eN 3 (.st 1) [pT 9, pT 19]]))))) (.seq (.reg [eS 0 20 (.ld none) [pT 9], eS 1 8 .mov [pT 20]]) .ret))))⟩
theorem xf117_ok : compF Try.prog 117 = some xf117 := by kernel_rfl
def xf158 : XF := ⟨10, [(.tmp 8)], (.seq (.reg [eS 0 4 (.box 3) [pT 0], eS 1 5 (.box 3) [pT 1], eS 2 6 (.box 3) [pT 2], eS 3 7 (.box 3) [pT 3], eS 4 8 .mov [(.const .nilFunc)]]) (.seq (.reg [eS 0 9 (.fn 182 0 4) [pT 6, pT 5, pT 7, pT 4], eS 1 8 .mov [pT 9]]) .ret))⟩
theorem xf158_ok : compF Try.prog 158 = some xf158 := by kernel_rfl
def xf182 : XF := ⟨48, [], (.seq (.reg [eS 0 8 (.ld none) [pT 1], eS 1 9 (.ld none) [pT 2], eS 2 10 (.ld none) [pT 3], eS 3 11 (.bin .sub 0) [pT 9, pT 10], eS 4 12 (.bin .sub 0) [pT 8, pT 11], eS 5 13 .max2 [pC (nv 0), pT 12], eS 6 6 .mov [pT 13]]) (.block 0 (.loop (.seq (.seq (.reg [eS 0 14 .mov [pT 6], eS 1 15 (.ld none) [pT 1], eS 2 16 (.ld none) [pT 3], eS 3 17 .min2 [pT 15, pT 16], eS 4 18 (.bin .leq 0) [pT 14, pT 17]]) (.cond (.tmp 18) .skip (.exit 0))) (.seq (.block 1 (.seq (.reg [eS 0 21 (.ld none) [pT 4], eS 1 22 (.bin .sub 0) [pT 21, pC (nv 1)], eS 2 23 (.ld none) [pT 1], eS 3 24 .mov [pT 6], eS 4 25 (.bin .sub 0) [pT 23, pT 24], ⟨none, (.ld none), [pT 3], (some 27), 6, true, []⟩, eS 7 28 .mov [pT 6], ⟨none, (.ld none), [pT 2], (some 31), 10, true, []⟩, ⟨none, (.ld none), [pT 3], (some 32), 11, true, []⟩, eS 12 33 (.bin .sub 0) [pT 31, pT 32], ⟨none, (.ld none), [pT 1], (some 34), 13, true, []⟩, eS 14 35 .mov [pT 6], eS 15 36 (.bin .sub 0) [pT 34, pT 35], ⟨none, .call, [(.func 119), pT 22, pT 25], (some 26), 5, false, [13, 11, 10, 6]⟩, ⟨none, .call, [(.func 183), pT 27, pT 28], (some 29), 8, false, [13, 11, 10]⟩, eS 9 30 (.bin .mul 0) [pT 26, pT 29], eS 16 37 .call [(.func 183), pT 33, pT 36], eS 17 38 (.bin .mul 0) [pT 30, pT 37], eS 18 7 .mov [pT 38]]) (.seq (.seq (.reg [eS 0 39 .mov [pT 6], eS 1 40 (.bin .rem 0) [pT 39, pC (nv 2)], eS 2 41 (.bin .eql 0) [pT 40, pC (nv 1)]]) (.cond (.tmp 41) (.reg [eS 0 42 .mov [pT 7], eS 1 43 (.un .neg) [pT 42], eS 2 7 .mov [pT 43]]) .skip)) (.seq (.reg [eS 0 44 .mov [pT 0], eS 1 45 .mov [pT 7], eS 2 46 .call [pT 44, pT 45], eS 3 47 (.un .not) [pT 46]]) (.cond (.tmp 47) .ret .skip))))) (.reg [eS 0 19 .mov [pT 6], eS 1 20 (.bin .add 0) [pT 19, pC (nv 1)], eS 2 6 .mov [pT 20]]))))))⟩
theorem xf182_ok : compF Try.prog 182 = some xf182 := by kernel_rfl
end Go.Sim

namespace Go.Sim
open Go Go.Proofs Kr
theorem pw_tab : (allB 25 fun m => allB 25 fun b => allB 15 fun q => decide (m < b) || decide ((q + 1) ^ b * chF m b ≤ (q + 2) ^ m)) = true := by decide +kernel
theorem pw_le {q m b : Nat} (hq : 2 ≤ q ∧ q ≤ 16) (hm : m ≤ 24) (hb : b ≤ m) : (q - 1) ^ b * chF m b ≤ q ^ m := by
  have h := allB_spec (allB_spec (allB_spec pw_tab m (by omega)) b (by omega)) (q - 2) (by omega)
  simp only [Bool.or_eq_true, decide_eq_true_eq] at h
  rw [show q - 2 + 1 = q - 1 by omega, show q - 2 + 2 = q by omega] at h
  omega
def sumN : Nat → (Nat → Nat) → Nat
  | 0, _ => 0
  | n + 1, f => sumN n f + f n
theorem ch_tab : (allB 25 fun i => decide (sumN (i + 1) (chF i) = 2 ^ i) && allB (i + 1) fun j => decide (1 ≤ chF i j)) = true := by decide +kernel
theorem ch_sum {i : Nat} (hi : i ≤ 24) : sumN (i + 1) (chF i) = 2 ^ i := by
  have h := allB_spec ch_tab i (by omega)
  simp only [Bool.and_eq_true, decide_eq_true_eq] at h
  exact h.1
theorem ch_pos {i j : Nat} (hi : i ≤ 24) (hj : j ≤ i) : 1 ≤ chF i j := by
  have h := allB_spec ch_tab i (by omega)
  simp only [Bool.and_eq_true] at h
  have := allB_spec h.2 j (by omega)
  simpa using this
theorem sumN_mono {f : Nat → Nat} {a b : Nat} (h : a ≤ b) : sumN a f ≤ sumN b f := by
  induction b with
  | zero => obtain rfl : a = 0 := by omega
            exact Nat.le_refl _
  | succ b ih =>
    by_cases e : a = b + 1
    · subst e; exact Nat.le_refl _
    · have := ih (by omega); simp only [sumN]; omega
def trN (q n k i j : Nat) : Nat := (q - 1) ^ (k - j) * chF i j * chF (n - i) (k - j)
theorem trm_trN (q n k i j : Nat) : trm q n k i j = (if j % 2 = 1 then -1 else 1) * (trN q n k i j : Int) := rfl
section
variable {q n k i : Nat} (hq : 2 ≤ q ∧ q ≤ 16) (hn : n ≤ 24) (hk : k ≤ n) (hi : i ≤ n) (hf : q ^ n ≤ 2 ^ 62)
include hq hn hk hi
theorem trN_le {j : Nat} (h1 : k - (n - i) ≤ j) (h2 : j ≤ min k i) : trN q n k i j ≤ q ^ (n - i) * chF i j ∧ (q - 1) ^ (k - j) * chF i j ≤ q ^ (n - i) * chF i j ∧ (q - 1) ^ (k - j) ≤ q ^ (n - i) := by
  have hp := pw_le hq (m := n - i) (b := k - j) (by omega) (by omega)
  have hc := ch_pos (i := n - i) (j := k - j) (by omega) (by omega)
  have h3 : (q - 1) ^ (k - j) ≤ q ^ (n - i) := Nat.le_trans (Nat.le_mul_of_pos_right _ hc) hp
  refine ⟨?_, Nat.mul_le_mul_right _ h3, h3⟩
  unfold trN
  rw [Nat.mul_right_comm]
  exact Nat.mul_le_mul_right _ hp
theorem two_le : q ^ (n - i) * 2 ^ i ≤ q ^ n := by
  have : 2 ^ i ≤ q ^ i := Nat.pow_le_pow_left hq.1 i
  have h2 := Nat.mul_le_mul_left (q ^ (n - i)) this
  rwa [← Nat.pow_add, Nat.sub_add_cancel hi] at h2
theorem chN_le {j : Nat} (h2 : j ≤ i) : q ^ (n - i) * chF i j ≤ q ^ n := by
  have h1 : chF i j ≤ 2 ^ i := by
    rw [← ch_sum (i := i) (by omega)]
    have := sumN_mono (f := chF i) (show j + 1 ≤ i + 1 by omega)
    simp only [sumN] at this ⊢
    omega
  exact Nat.le_trans (Nat.mul_le_mul_left _ h1) (two_le hq hn hk hi)
theorem sum_le {T : Nat} (hT : T ≤ min k i + 1 - (k - (n - i))) : (sm T fun t => trm q n k i (k - (n - i) + t)).natAbs ≤ q ^ n := by
  have h : ∀ T, T ≤ min k i + 1 - (k - (n - i)) → (sm T fun t => trm q n k i (k - (n - i) + t)).natAbs ≤ q ^ (n - i) * (sumN (k - (n - i) + T) (chF i) - sumN (k - (n - i)) (chF i)) := by
    intro T
    induction T with
    | zero => intro _; simp [sm]
    | succ T ih =>
      intro hT
      have h1 := ih (by omega)
      have h2 := (trN_le hq hn hk hi (j := k - (n - i) + T) (by omega) (by omega)).1
      have h3 : (trm q n k i (k - (n - i) + T)).natAbs = trN q n k i (k - (n - i) + T) := by
        rw [trm_trN]; split <;> simp
      have h4 := sumN_mono (f := chF i) (show k - (n - i) ≤ k - (n - i) + T by omega)
      have h5 : sumN (k - (n - i) + (T + 1)) (chF i) - sumN (k - (n - i)) (chF i) = (sumN (k - (n - i) + T) (chF i) - sumN (k - (n - i)) (chF i)) + chF i (k - (n - i) + T) := by
        have : sumN (k - (n - i) + (T + 1)) (chF i) = sumN (k - (n - i) + T) (chF i) + chF i (k - (n - i) + T) := rfl
        omega
      rw [h5, Nat.mul_add]
      simp only [sm]
      omega
  refine Nat.le_trans (h T hT) (Nat.le_trans (Nat.mul_le_mul_left _ ?_) (two_le hq hn hk hi))
  rw [← ch_sum (i := i) (by omega)]
  have := sumN_mono (f := chF i) (show k - (n - i) + T ≤ i + 1 by omega)
  omega
end
theorem xress_nilT {H : AH} {s : St} : xress H s [] = some (.tuple [].toArray) := by simp [xress]
theorem xp_fnT {g : FuncId} {nf nc : Nat} {vs : List Value} (h : vs.length = nf + nc) : xpure (.fn g nf nc) vs = some (.func (.func g) (vs.take nf).toArray (vs.drop nf).toArray) := by
  simp [xpure, h]
theorem terms_c {q n k i : Nat} {H : AH} :
    FN Try.prog 158 [nv q, nv n, nv k, nv i] H (fun v H' => H' = H ++ [.cells [nv q] 3 none false, .cells [nv n] 3 none false, .cells [nv k] 3 none false, .cells [nv i] 3 none false] ∧ v = .func (.func 182) #[] #[.pointer (some ⟨H.length + 2, 0, none⟩), .pointer (some ⟨H.length + 1, 0, none⟩), .pointer (some ⟨H.length + 3, 0, none⟩), .pointer (some ⟨H.length, 0, none⟩)]) := by
  refine FN.of_compZ mixed xf158_ok (Nat.le_of_ble_eq_true rfl) ?_
  simp (disch := (first | omega | (simp only [List.length_map]; omega) | (simp only [stLen] <;> omega) | (simp only [all_nv]; done) | rfl)) only [↓stPre, zC, zD, zF, zG, zH, Nat.reduceEqDiff, Nat.reduceLT, Nat.reduceLeDiff, ↓reduceIte, xf158, xp_fnT]
  simp
end Go.Sim

namespace Go.Sim
open Go Go.Proofs Kr
theorem yields_c {q n k i l bq bn bk bi : Nat} {Hb0 : AH} (Ib : Nat → AH → Prop) (hq : 2 ≤ q ∧ q ≤ 16) (hn : n ≤ 24) (hk : k ≤ n) (hi : i ≤ n) (hf : q ^ n ≤ 2 ^ 62)
    (h0 : Ib 0 Hb0) (hb : ∀ t Hb, Ib t Hb → Hb[bk]? = some (.cells [nv k] 3 none false) ∧ Hb[bn]? = some (.cells [nv n] 3 none false) ∧ Hb[bi]? = some (.cells [nv i] 3 none false) ∧ Hb[bq]? = some (.cells [nv q] 3 none false))
    (hy : ∀ t Hb J, t < min k i + 1 - (k - (n - i)) → Ib t Hb → YN Try.prog l [zv (trm q n k i (k - (n - i) + t))] (Hb ++ J) (fun v H' => v = .bool true ∧ ∃ Hb' J', H' = Hb' ++ J ++ J' ∧ Ib (t + 1) Hb')) :
    FN Try.prog 182 [.func (.yield l) #[] #[], .pointer (some ⟨bk, 0, none⟩), .pointer (some ⟨bn, 0, none⟩), .pointer (some ⟨bi, 0, none⟩), .pointer (some ⟨bq, 0, none⟩)] Hb0 (fun _ H' => ∃ Hb J, H' = Hb ++ J ∧ Ib (min k i + 1 - (k - (n - i))) Hb) := by
  refine FN.of_compZ mixed xf182_ok (Nat.le_of_ble_eq_true rfl) ?_
  obtain ⟨b1, b2, b3, b4⟩ := hb 0 _ h0
  have s1 : xbin .sub 0 (nv k) (nv (n - i)) = some (zv ((k : Int) - ((n - i : Nat) : Int))) := by
    rw [xbin_sub, wrap64 (by omega) (by omega)]
  have m1 : xpure .max2 [nv 0, zv ((k : Int) - ((n - i : Nat) : Int))] = some (nv (k - (n - i))) := by
    rw [xp_max2']
    congr 2
    split <;> omega
  simp (disch := (first | omega | (simp only [List.length_map]; omega) | (simp only [stLen] <;> omega) | (simp only [all_nv]; done) | rfl)) only [↓stPre, zC, zD, zF, zG, zH, Nat.reduceEqDiff, Nat.reduceLT, Nat.reduceLeDiff, ↓reduceIte, xf182, b1, b2, b3, b4, hi, s1, m1]
  have e2 : xpure .min2 [nv k, nv i] = some (nv (min k i)) := by
    rw [xp_min2']
    congr 2
    split <;> omega
  refine LZ.nat (min k i + 1 - (k - (n - i))) (fun t s H' => s.env 0 = .func (.yield l) #[] #[] ∧ s.env 1 = .pointer (some ⟨bk, 0, none⟩) ∧ s.env 2 = .pointer (some ⟨bn, 0, none⟩) ∧ s.env 3 = .pointer (some ⟨bi, 0, none⟩) ∧ s.env 4 = .pointer (some ⟨bq, 0, none⟩) ∧ s.env 6 = nv (k - (n - i) + t) ∧ s.ds = [] ∧
     ∃ Hb J, H' = Hb ++ J ∧ Ib t Hb) ?_ ?_ ?_
  · simp (disch := (first | omega | (simp only [List.length_map]; omega) | (simp only [stLen] <;> omega) | (simp only [all_nv]; done) | rfl)) only [↓stPre, zC, zD, zF, zG, zH, Nat.reduceEqDiff, Nat.reduceLT, Nat.reduceLeDiff, ↓reduceIte]
    exact ⟨Hb0, [], by simp, h0⟩
  · rintro t s H1 ht ⟨e0, e1', e2', e3, e4, e6, eds, Hb, J, rfl, hI⟩
    obtain ⟨c1, c2, c3, c4⟩ := hb t _ hI
    have d1 := get_old (L := J) c1
    have d2 := get_old (L := J) c2
    have d3 := get_old (L := J) c3
    have d4 := get_old (L := J) c4
    have hYt := hy t Hb J ht hI
    have hj1 : k - (n - i) ≤ k - (n - i) + t := by omega
    have hj2 : k - (n - i) + t ≤ min k i := by omega
    obtain ⟨t1, t2, t3⟩ := trN_le hq hn hk hi hj1 hj2
    have t4 := chN_le hq hn hk hi (j := k - (n - i) + t) (by omega)
    have t5 := two_le hq hn hk hi
    have t6 : q ^ (n - i) ≤ q ^ n := Nat.pow_le_pow_right (by omega) (by omega)
    rw [trm_trN] at hYt
    unfold trN at t1 hYt
    generalize hJ : k - (n - i) + t = j at *
    have hjk : j ≤ k := by omega
    have hji : j ≤ i := by omega
    have hqq : 1 ≤ q := by omega
    simp (disch := (first | omega | (simp only [List.length_map]; omega) | (simp only [stLen] <;> omega) | (simp only [all_nv]; done) | rfl)) only [↓stPre, zC, zD, zF, zG, zH, Nat.reduceEqDiff, Nat.reduceLT, Nat.reduceLeDiff, ↓reduceIte, e0, e1', e2', e3, e4, e6, eds, d1, d2, d3, d4, e2, hj2, hjk, hji, hi, hqq]
    refine FZ.use (power_c (by omega) (by omega) (by omega)) ?_
    simp (disch := (first | omega | (simp only [List.length_map]; omega) | (simp only [stLen] <;> omega) | (simp only [all_nv]; done) | rfl)) only [↓stPre, zC, zD, zF, zG, zH, Nat.reduceEqDiff, Nat.reduceLT, Nat.reduceLeDiff, ↓reduceIte, e0, e1', e2', e3, e4, e6, eds, d1, d2, d3, d4]
    refine FZ.use (choose_c (by omega) hji) ?_
    have w1 : (q - 1) ^ (k - j) * chF i j < 9223372036854775808 := by omega
    simp (disch := (first | omega | (simp only [List.length_map]; omega) | (simp only [stLen] <;> omega) | (simp only [all_nv]; done) | rfl)) only [↓stPre, zC, zD, zF, zG, zH, Nat.reduceEqDiff, Nat.reduceLT, Nat.reduceLeDiff, ↓reduceIte, e0, e1', e2', e3, e4, e6, eds, d1, d2, d3, d4, w1]
    refine FZ.use (choose_c (by omega) (by omega)) ?_
    have w2 : (q - 1) ^ (k - j) * chF i j * chF (n - i) (k - j) < 9223372036854775808 := by omega
    generalize hT : (q - 1) ^ (k - j) * chF i j * chF (n - i) (k - j) = T at *
    have hTb : T < 4611686018427387905 := by omega
    by_cases hodd : j % 2 = 1
    · rw [if_pos hodd] at hYt
      have g1 : eun .neg (nv T) = some (zv (-1 * (T : Int))) := by
        rw [eun_neg, wrapI (by omega) (by omega)]
        congr 2; omega
      simp (disch := (first | omega | (simp only [List.length_map]; omega) | (simp only [stLen] <;> omega) | (simp only [all_nv]; done) | rfl)) only [↓stPre, zC, zD, zF, zG, zH, Nat.reduceEqDiff, Nat.reduceLT, Nat.reduceLeDiff, ↓reduceIte, e0, e1', e2', e3, e4, e6, eds, d1, d2, d3, d4, w2, hT, hodd, g1]
      refine YN.mono hYt ?_
      rintro _ _ ⟨rfl, Hb', J', rfl, hI'⟩
      simp (disch := (first | omega | (simp only [List.length_map]; omega) | (simp only [stLen] <;> omega) | (simp only [all_nv]; done) | rfl)) only [↓stPre, zC, zD, zF, zG, zH, Nat.reduceEqDiff, Nat.reduceLT, Nat.reduceLeDiff, ↓reduceIte, e0, e1', e2', e3, e4, e6, eds]
      exact ⟨by rw [← hJ, Nat.add_assoc], Hb', J ++ J', rfl, hI'⟩
    · rw [if_neg hodd, Int.one_mul] at hYt
      have hodd' : j % 2 = 0 := by omega
      simp (disch := (first | omega | (simp only [List.length_map]; omega) | (simp only [stLen] <;> omega) | (simp only [all_nv]; done) | rfl)) only [↓stPre, zC, zD, zF, zG, zH, Nat.reduceEqDiff, Nat.reduceLT, Nat.reduceLeDiff, ↓reduceIte, e0, e1', e2', e3, e4, e6, eds, d1, d2, d3, d4, w2, hT, hodd']
      refine YN.mono hYt ?_
      rintro _ _ ⟨rfl, Hb', J', rfl, hI'⟩
      simp (disch := (first | omega | (simp only [List.length_map]; omega) | (simp only [stLen] <;> omega) | (simp only [all_nv]; done) | rfl)) only [↓stPre, zC, zD, zF, zG, zH, Nat.reduceEqDiff, Nat.reduceLT, Nat.reduceLeDiff, ↓reduceIte, e0, e1', e2', e3, e4, e6, eds]
      exact ⟨by rw [← hJ, Nat.add_assoc], Hb', J ++ J', rfl, hI'⟩
  · rintro s H1 ⟨e0, e1', e2', e3, e4, e6, eds, Hb, J, rfl, hI⟩
    obtain ⟨c1, c2, c3, c4⟩ := hb _ _ hI
    have d1 := get_old (L := J) c1
    have d2 := get_old (L := J) c2
    have d3 := get_old (L := J) c3
    have hneg : ¬ k - (n - i) + (min k i + 1 - (k - (n - i))) ≤ min k i := by omega
    simp (disch := (first | omega | (simp only [List.length_map]; omega) | (simp only [stLen] <;> omega) | (simp only [all_nv]; done) | rfl)) only [↓stPre, zC, zD, zF, zG, zH, Nat.reduceEqDiff, Nat.reduceLT, Nat.reduceLeDiff, ↓reduceIte, e0, e1', e2', e3, e4, e6, eds, d1, d2, d3, e2, hneg, xf182, xress_nilT]
    exact ⟨Hb, J, rfl, hI⟩
def Iv (q n k i : Nat) (H : AH) (L : ALoop) (t : Nat) (Hb : AH) : Prop :=
  Hb = H ++ [.cells [zv (sm t fun t => trm q n k i (k - (n - i) + t))] 3 none false, .cells [nv q] 3 none false, .cells [nv n] 3 none false, .cells [nv k] 3 none false, .cells [nv i] 3 none false, .defs (some []), .loop L]
theorem value_c {q n k i : Nat} {H : AH} (hq : 2 ≤ q ∧ q ≤ 16) (hn : n ≤ 24) (hk : k ≤ n) (hi : i ≤ n) (hf : q ^ n ≤ 2 ^ 62) :
    FN Try.prog 117 [nv q, nv n, nv k, nv i] H (fun v H' => v = zv (Kc q n k i) ∧ H' = H) := by
  refine FN.gc0 (FN.of_compZ mixed xf117_ok (Nat.le_of_ble_eq_true rfl) ?_)
  simp (disch := (first | omega | (simp only [List.length_map]; omega) | (simp only [stLen] <;> omega) | (simp only [all_nv]; done) | rfl)) only [↓stPre, zC, zD, zF, zG, zH, Nat.reduceEqDiff, Nat.reduceLT, Nat.reduceLeDiff, ↓reduceIte, xf117]
  refine FZ.mono terms_c ?_
  rintro _ _ ⟨rfl, rfl⟩
  simp (disch := (first | omega | (simp only [List.length_map]; omega) | (simp only [stLen] <;> omega) | (simp only [all_nv]; done) | rfl)) only [↓stPre, zC, zD, zF, zG, zH, Nat.reduceEqDiff, Nat.reduceLT, Nat.reduceLeDiff, ↓reduceIte]
  refine X_gen (fun s H' => s.env 9 = .pointer (some ⟨H.length, 0, none⟩) ∧ s.env 15 = .func (.func 182) #[] #[.pointer (some ⟨H.length + 3, 0, none⟩), .pointer (some ⟨H.length + 2, 0, none⟩), .pointer (some ⟨H.length + 4, 0, none⟩), .pointer (some ⟨H.length + 1, 0, none⟩)] ∧ s.ds = [] ∧
     H' = H ++ [.cells [nv 0] 3 none false, .cells [nv q] 3 none false, .cells [nv n] 3 none false, .cells [nv k] 3 none false, .cells [nv i] 3 none false]) ?_ ?_
  · simp (disch := (first | omega | (simp only [List.length_map]; omega) | (simp only [stLen] <;> omega) | (simp only [all_nv]; done) | rfl)) only [↓stPre, zC, zD, zF, zG, zH, Nat.reduceEqDiff, Nat.reduceLT, Nat.reduceLeDiff, ↓reduceIte]
  rintro s H1 ⟨e9, e15, eds, rfl⟩
  refine range_ind (f := .tmp 15) (g := 182) rfl e15 ?_
  intro assign body hA hB
  simp only [List.length_append, List.length_cons, List.length_nil, List.append_assoc, List.cons_append, List.nil_append, Nat.zero_add, Nat.reduceAdd, Nat.add_assoc]
  refine FN.mono (yields_c (Iv q n k i H (newLoop 21 s #[16] assign body (H.length + 5))) hq hn hk hi hf ?_ ?_ ?_) ?_
  · simp only [Iv, sm]; rfl
  · rintro t Hb rfl
    exact ⟨get_new.trans rfl, get_new.trans rfl, get_new.trans rfl, get_new.trans rfl⟩
  · rintro t Hb J ht rfl
    simp only [List.append_assoc, List.cons_append]
    have hs1 := sum_le hq hn hk hi (T := t) (by omega)
    have hs2 := sum_le hq hn hk hi (T := t + 1) (by omega)
    simp only [Iv]
    simp only [sm] at hs2 ⊢
    generalize sm t (fun t => trm q n k i (k - (n - i) + t)) = S at *
    generalize trm q n k i (k - (n - i) + t) = T at *
    have ad : xbin .add 0 (zv S) (zv T) = some (zv (S + T)) := by
      simp only [xbin, if_true]
      rw [wrapI (by omega) (by omega)]
    refine YN.introZ mixed (r := newLoop 21 s #[16] assign body (H.length + 5)) (get_new.trans rfl) hA hB rfl (by simp [newLoop]) ?_
    simp (disch := (first | omega | (simp only [List.length_map]; omega) | (simp only [stLen] <;> omega) | (simp only [all_nv]; done) | rfl)) only [↓stPre, zC, zD, zF, zG, zH, Nat.reduceEqDiff, Nat.reduceLT, Nat.reduceLeDiff, ↓reduceIte, parEnv_one, parEnv_at, E_ynA]
    refine ⟨newLoop 21 s #[16] assign body (H.length + 5), rfl, rfl, ?_⟩
    simp (disch := (first | omega | (simp only [List.length_map]; omega) | (simp only [stLen] <;> omega) | (simp only [all_nv]; done) | rfl)) only [↓stPre, zC, zD, zF, zG, zH, Nat.reduceEqDiff, Nat.reduceLT, Nat.reduceLeDiff, ↓reduceIte, parEnv_one, parEnv_at, e9, newLoop, ad, E_ynB]
    refine ⟨_, rfl, rfl, _, [], ?_, rfl⟩
    simp only [newLoop, List.append_nil, List.append_assoc, List.cons_append, List.nil_append]
    rfl
  · rintro v H2 ⟨Hb, J, rfl, rfl⟩
    simp only [List.append_assoc, List.cons_append, List.nil_append]
    refine ⟨newLoop 21 s #[16] assign body (H.length + 5), .normal, get_new.trans rfl, by simp [newLoop], rfl, ?_⟩
    refine EZ_of ?_
    simp (disch := (first | omega | (simp only [List.length_map]; omega) | (simp only [stLen] <;> omega) | (simp only [all_nv]; done) | rfl)) only [↓stPre, zC, zD, zF, zG, zH, Nat.reduceEqDiff, Nat.reduceLT, Nat.reduceLeDiff, ↓reduceIte, e9, xf117, newLoop, eds]
    rw [unwA_col (get_new.trans rfl)]
    simp (disch := (first | omega | (simp only [List.length_map]; omega) | (simp only [stLen] <;> omega) | (simp only [all_nv]; done) | rfl)) only [↓stPre, zC, zD, zF, zG, zH, Nat.reduceEqDiff, Nat.reduceLT, Nat.reduceLeDiff, ↓reduceIte, e9, xf117, newLoop, eds]
    simp [Kc, ground, scal]
end Go.Sim
