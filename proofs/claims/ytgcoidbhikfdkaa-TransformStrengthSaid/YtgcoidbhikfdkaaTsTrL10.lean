/- Part of the proof: TrL10. -/
import Derived.Test.YtgcoidbhikfdkaaPTrDToTrL9
set_option linter.all false
namespace Go.Sim
open Go Go.Proofs Kr Lw
theorem law6 (hx : ExOK15) {H : AH} {a b : Nat} {w : Value} {wss : List (List Nat)} (ha : a < 256) (hb : b < 256) (hw : RowB H w wss) : FN Try.prog 6 [.agg [ub a, ub b, w].toArray] H (fun r H' => r = .bool true ∧ H' = H) := by
  refine FN.pre0' (g6_of ?_) rfl
  unfold g6
  have ec : cellsL (.agg [ub a, ub b, w].toArray) = [ub a, ub b, w] := rfl
  simp (disch := (first | omega | (simp only [stLen] <;> omega) | (simp only [all_nv]; done) | rfl)) only [zA, zB, zC, zD, zF, zG, zH, Nat.reduceEqDiff, Nat.reduceLT, Nat.reduceLeDiff, ↓reduceIte, ec]
  refine FZ.use (hx _) ?_
  simp (disch := (first | omega | (simp only [stLen] <;> omega) | (simp only [all_nv]; done) | rfl)) only [zA, zB, zC, zD, zF, zG, zH, Nat.reduceEqDiff, Nat.reduceLT, Nat.reduceLeDiff, ↓reduceIte]
  refine FZ.use (rsize_c ha hb) ?_
  have hp1 := Pre.new H [AB.cells [ub a, ub b, w] 24 none false, AB.cells [nv 0, nv 0] 25 none false]
  simp (disch := (first | omega | (simp only [stLen] <;> omega) | (simp only [all_nv]; done) | rfl)) only [zA, zB, zC, zD, zF, zG, zH, Nat.reduceEqDiff, Nat.reduceLT, Nat.reduceLeDiff, ↓reduceIte]
  refine FZ.mono (words_c ha hb (hw.pre hp1)) ?_
  rintro l H5 ⟨hp5, hacc⟩
  have hq : 2 ≤ 2 + a % 3 ∧ 2 + a % 3 ≤ 4 := by omega
  have hn : b % 7 ≤ 6 := by omega
  generalize 2 + a % 3 = q at *
  generalize b % 7 = n at *
  have hWl := wdL_len q n wss
  have hWM := wM_le wss
  have hWok := wdL_ok (n := n) (show 0 < q by omega) wss
  generalize wdL q n wss = W at *
  have hs5 : H5[H.length + 1]? = some (.cells [nv 0, nv 0] 25 none false) := hp5.get (by simp)
  have hx5 : H5[H.length]? = some (.cells [ub a, ub b, w] 24 none false) := hp5.get (by simp)
  have hst := stB2 (H := H5) (x := nv q) (y := nv n) (c0 := nv 0) (c1 := nv 0) (e := 25) (op := none) (bl := H.length + 1) rfl rfl
  simp (disch := (first | omega | (simp only [stLen] <;> omega) | (simp only [all_nv]; done) | rfl)) only [zA, zB, zC, zD, zF, zG, zH, Nat.reduceEqDiff, Nat.reduceLT, Nat.reduceLeDiff, ↓reduceIte, hs5, hst]
  obtain ⟨H6, hH6⟩ : ∃ H6, H6 = H5.set (H.length + 1) (.cells [nv q, nv n] 25 none false) := ⟨_, rfl⟩
  have hl5 := get_lt hs5
  have h6s : H6[H.length + 1]? = some (.cells [nv q, nv n] 25 none false) := by rw [hH6]; exact List.getElem?_set_self hl5
  have hpre6 : Pre H H6 := by
    rw [hH6]; exact ((Pre.new H _).trans hp5).set (by omega) _
  have hacc6 : AccLo (H ++ [AB.cells [ub a, ub b, w] 24 none false, AB.cells [nv 0, nv 0] 25 none false]) H6 l (W.map fun ws => ws.map nv) 26 := by
    rw [hH6]; exact hacc.setLow (by simp)
  rw [← hH6]
  simp (disch := (first | omega | (simp only [stLen] <;> omega) | (simp only [all_nv]; done) | rfl)) only [zA, zB, zC, zD, zF, zG, zH, Nat.reduceEqDiff, Nat.reduceLT, Nat.reduceLeDiff, ↓reduceIte, h6s]
  have hm1 : 0 < W.length := by omega
  have hm12 : W.length ≤ 12 := by omega
  have hpC := Pre.new H6 [AB.cells [.slice none 0 0, nv 0] 36 none false]
  refine FZ.mono (distances_c (by omega) (by omega) hm1 (by omega) hWok (hacc6.acc.rowR.pre hpC)) ?_
  rintro _ H7 ⟨hp7, u, rfl, ho7⟩
  have hq5 : 2 ≤ q ∧ q ≤ 5 := by omega
  have hn9 : n ≤ 9 := by omega
  have hqn : q ^ n ≤ 4096 := Nat.le_trans (Nat.pow_le_pow_left hq.2 n) (Nat.le_trans (Nat.pow_le_pow_right (by omega) hn) (by decide))
  have hmm : 0 < W.length * W.length := Nat.mul_pos hm1 hm1
  have hA0 : 0 < prs n (lw W) W.length 0 := by
    unfold prs; rw [if_pos rfl]; omega
  have h7s : H7[H.length + 1]? = some (.cells [nv q, nv n] 25 none false) := hp7.get (get_app h6s _)
  have hprt : xpure (.prt none 0) [.agg [u, nv 0].toArray] = some u := rfl
  simp (disch := (first | omega | (simp only [stLen] <;> omega) | (simp only [all_nv]; done) | rfl)) only [zA, zB, zC, zD, zF, zG, zH, Nat.reduceEqDiff, Nat.reduceLT, Nat.reduceLeDiff, ↓reduceIte, h7s, hprt]
  refine FZ.mono (lturned_c (m := W.length) (A := prs n (lw W) W.length) (by omega) (by omega) (by omega) hm1 (by omega) (fun j _ => prs_le (by omega)) hA0 prs_all ho7.row) ?_
  rintro _ H10 ⟨hp10, u2, rfl, ho10⟩
  have hcT : H10[H6.length]? = some (.cells [.slice none 0 0, nv 0] 36 none false) := hp10.get (hp7.get (by simp))
  simp (disch := (first | omega | (simp only [stLen] <;> omega) | (simp only [all_nv]; done) | rfl)) only [zA, zB, zC, zD, zF, zG, zH, Nat.reduceEqDiff, Nat.reduceLT, Nat.reduceLeDiff, ↓reduceIte, hcT]
  rw [stB2u ho10.row.one]
  have hTB : ∀ k, k ≤ n → tk q n (prs n (lw W) W.length) k (n + 1) = Bz q n W.length (lw W) k := fun k hk => tk_Bz hq5 hn9 hk
  have hl10 := get_lt hcT
  have hl6 := get_lt h6s
  obtain ⟨HT, hHT⟩ : ∃ HT, HT = H10.set H6.length (.cells [u2, nv 0] 36 none false) := ⟨_, rfl⟩
  have hT0 : HT[H6.length]? = some (.cells [u2, nv 0] 36 none false) := by rw [hHT]; exact List.getElem?_set_self hl10
  have hTs : HT[H.length + 1]? = some (.cells [nv q, nv n] 25 none false) := by rw [hHT, List.getElem?_set_ne (by omega)]; exact hp10.get h7s
  have hT6 : Pre H6 HT := by
    rw [hHT]; exact ((hpC.trans hp7).trans hp10).set (Nat.le_refl _) _
  have hoT : AccF H7 HT u2 (tfs q n W.length (prs n (lw W) W.length) (n + 1)) := by
    rw [hHT]; refine ho10.keep fun b hb _ => ?_
    have := hp7.len
    simp at this
    rw [List.getElem?_set_ne (by omega)]
  rw [← hHT]
  have htl : (tfs q n W.length (prs n (lw W) W.length) (n + 1)).length = n + 1 := by simp [tfs]
  obtain ⟨t1, t2, t3, _⟩ := hoT.row.all
  obtain ⟨_, t6, _⟩ := hoT.row.all0
  rw [htl] at t1 t2 t3 t6
  have htg : ∀ k, k < n + 1 → (tfs q n W.length (prs n (lw W) W.length) (n + 1)).getD k (0, 0) = (rN (Bz q n W.length (lw W) k) (W.length * W.length), rD (Bz q n W.length (lw W) k) (W.length * W.length)) := by
    intro k hk
    simp [tfs, List.getD_eq_getElem?_getD, hk, hTB k (by omega)]
  have hn1 : n + 1 < 1000 := by omega
  simp (disch := (first | omega | (simp only [stLen] <;> omega) | (simp only [all_nv]; done) | rfl)) only [zA, zB, zC, zD, zF, zG, zH, Nat.reduceEqDiff, Nat.reduceLT, Nat.reduceLeDiff, ↓reduceIte, hT0, hTs, t1, hn1]
  -- the numbers from 1 to k are 0
  let Z : Nat → Prop := fun k => ∀ j, 1 ≤ j → j ≤ k → Bz q n W.length (lw W) j = 0
  have hev : ∀ k, k ≤ n → (evenP q n W.length (lw W) k ↔ Z k) := fun k hk => even_iff (by omega) (lw_lt hWok) hk
  refine loopV2.ind (fun r z x H' => ∃ k, r = n + 1 - k ∧ 1 ≤ k ∧ k ≤ n + 1 ∧ x = nv k ∧ H' = HT ∧ z = .bool (@decide (Z (k - 1)) (Classical.propDecidable _))) n ⟨1, by omega, by omega, by omega, rfl, rfl, ?_⟩ ?_
  · rw [@decide_eq_true _ (Classical.propDecidable _)]
    intro j h1 h2; omega
  · rintro r z x H11 ⟨k, rfl, hk1, hkn, rfl, rfl, rfl⟩ J hJ
    by_cases hkk : k ≤ n
    · have t2' := t2 k (by omega)
      have t3' := t3 k (by omega)
      have t6' := t6 k (by omega)
      rw [htg k (by omega)] at t6'
      have rs := (red_sign (a := Bz q n W.length (lw W) k) hmm).2
      have hks : k + 1 < 1000 := by omega
      have e1 : xbin .eql 0 (zv (rN (Bz q n W.length (lw W) k) (W.length * W.length))) (nv 0) = some (.bool (decide (Bz q n W.length (lw W) k = 0))) := by
        simp only [xbin, if_true]; congr 2; rw [Bool.eq_iff_iff]; simp [rs]
      have hZ : Z k ↔ Z (k - 1) ∧ Bz q n W.length (lw W) k = 0 := by
        constructor
        · intro h; exact ⟨fun j h1 h2 => h j h1 (by omega), h k hk1 (Nat.le_refl _)⟩
        · rintro ⟨h1, h2⟩ j hj1 hj2
          by_cases e : j = k
          · subst e; exact h2
          · exact h1 j hj1 (by omega)
      have hfinal : ∀ c : Bool, c = @decide (Z k) (Classical.propDecidable _) → xbin .neq 1 (.bool c) (.bool (decide (evenP q n W.length (lw W) k))) = some (.bool false) := by
        intro c hc
        have e : decide (evenP q n W.length (lw W) k) = c := by
          rw [hc, Bool.eq_iff_iff]
          simp only [decide_eq_true_eq]
          exact hev k hkk
        rw [e]; simp [xbin]
      have hrec : ∀ c : Bool, c = @decide (Z k) (Classical.propDecidable _) → J (.bool c) (nv (k + 1)) H11 := by
        intro c hc
        refine hJ _ _ _ ⟨n + 1 - (k + 1), by omega, k + 1, rfl, by omega, by omega, rfl, rfl, ?_⟩
        rw [hc]; rfl
      have hrow := hacc6.acc.rowR.pre hT6
      have ha6 : ∀ Y : AH, xload (some 2) H11 [.pointer (some ⟨H.length + 1, 0, none⟩)] = some (.agg #[nv q, nv n]) := fun _ => by rw [xload_at hTs]; rfl
      cases hz : @decide (Z (k - 1)) (Classical.propDecidable _) with
      | false =>
        have hnz : ¬ Z k := fun h => by
          have := (hZ.1 h).1
          rw [@decide_eq_true _ (Classical.propDecidable _) this] at hz; cases hz
        have hc : false = @decide (Z k) (Classical.propDecidable _) := by rw [@decide_eq_false _ (Classical.propDecidable _) hnz]
        have e9 := hfinal _ hc
        simp (disch := (first | omega | (simp only [stLen] <;> omega) | (simp only [all_nv]; done) | rfl)) only [zA, zB, zC, zD, zF, zG, zH, Nat.reduceEqDiff, Nat.reduceLT, Nat.reduceLeDiff, ↓reduceIte, hT0, hTs, hkk]
        refine FZ.use (even_c hq hn hkk (by omega) hWok hrow) ?_
        simp (disch := (first | omega | (simp only [stLen] <;> omega) | (simp only [all_nv]; done) | rfl)) only [zA, zB, zC, zD, zF, zG, zH, Nat.reduceEqDiff, Nat.reduceLT, Nat.reduceLeDiff, ↓reduceIte, e9, hks]
        exact hrec _ hc
      | true =>
        have hzz : Z (k - 1) := by
          have := @of_decide_eq_true _ (Classical.propDecidable _) hz
          exact this
        have hc : decide (Bz q n W.length (lw W) k = 0) = @decide (Z k) (Classical.propDecidable _) := by
          rw [Bool.eq_iff_iff]
          simp only [decide_eq_true_eq]
          rw [hZ]
          exact ⟨fun h => ⟨hzz, h⟩, fun h => h.2⟩
        have e9 := hfinal _ hc
        simp (disch := (first | omega | (simp only [stLen] <;> omega) | (simp only [all_nv]; done) | rfl)) only [zA, zB, zC, zD, zF, zG, zH, Nat.reduceEqDiff, Nat.reduceLT, Nat.reduceLeDiff, ↓reduceIte, hT0, hTs, hkk, t2', t3', t6', e1]
        refine FZ.use (even_c hq hn hkk (by omega) hWok hrow) ?_
        simp (disch := (first | omega | (simp only [stLen] <;> omega) | (simp only [all_nv]; done) | rfl)) only [zA, zB, zC, zD, zF, zG, zH, Nat.reduceEqDiff, Nat.reduceLT, Nat.reduceLeDiff, ↓reduceIte, e9, hks]
        exact hrec _ hc
    · obtain rfl : k = n + 1 := by omega
      have hnn : ¬ n + 1 ≤ n := by omega
      simp (disch := (first | omega | (simp only [stLen] <;> omega) | (simp only [all_nv]; done) | rfl)) only [zA, zB, zC, zD, zF, zG, zH, Nat.reduceEqDiff, Nat.reduceLT, Nat.reduceLeDiff, ↓reduceIte, hTs, hnn]
      exact hpre6.trans hT6
end Go.Sim
