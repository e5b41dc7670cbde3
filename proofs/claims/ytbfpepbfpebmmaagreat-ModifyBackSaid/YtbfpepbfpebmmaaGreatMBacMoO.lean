/- Part of the proof: MoO. -/
import Derived.Test.YtbfpepbfpebmmaaGreatMBacMoHToMoN
import Derived.Test.YtbfpepbfpebmmaaGreatMBacZMoL
set_option linter.all false
namespace Go.Sim
open Go Go.Proofs
def RowSt (S : Nat → Prop) (H : AH) (v : Value) (css : List (List Value)) : Prop := ∀ H' : AH, (∀ b, b < H.length → ¬ S b → H'[b]? = H[b]?) → RowR H' v css
section
variable {S : Nat → Prop} {H H2 : AH} {v : Value} {css : List (List Value)}
theorem RowSt.now (h : RowSt S H v css) : RowR H v css := h H fun _ _ _ => rfl
theorem RowSt.step (h : RowSt S H v css) (hs : ∀ b, b < H.length → ¬ S b → H2[b]? = H[b]?) : RowSt S H2 v css := fun H' h' => h H' fun b hb hn => by
  have h2 := hs b hb hn
  have hlt : b < H2.length := by rw [List.getElem?_eq_getElem hb] at h2; exact (List.getElem?_eq_some_iff.1 h2).1
  rw [h' b hlt hn, h2]
theorem RowSt.pre (h : RowSt S H v css) (hp : Pre H H2) : RowSt S H2 v css := h.step fun b hb _ => hp b hb
theorem RowSt.set (h : RowSt S H v css) {b : Nat} (hb : S b) (y : AB) : RowSt S (H.set b y) v css := h.step fun b' _ hn => List.getElem?_set_ne fun e => hn (by rw [← e]; exact hb)
theorem RowSt.ofPre {H0 : AH} (h : RowR H0 v css) (hp : Pre H0 H) (hS : ∀ b, S b → H0.length ≤ b) : RowSt S H v css := fun H' h' => h.pre fun b hb =>
  (h' b (Nat.lt_of_lt_of_le hb hp.len) fun hs => by have := hS b hs; omega).trans (hp b hb)
theorem row_ag {n : Nat} {H' : AH} {cs : List Value} (h : Row H v cs) (hl : Lw.Lo n v) (hS : ∀ b, S b → b < n) (h' : ∀ b, b < H.length → ¬ S b → H'[b]? = H[b]?) : Row H' v cs := by
  rcases h with h | ⟨b1, o, c, cc, e1, op1, r1, rfl, h2, h3, hcap⟩
  · exact .inl h
  · have : n ≤ b1 := hl _ _ _ rfl
    exact .inr ⟨b1, o, c, cc, e1, op1, r1, rfl, by rw [h' b1 (get_lt h2) fun hs => by have := hS b1 hs; omega]; exact h2, h3, hcap⟩
theorem RowSt.ofLo {n : Nat} (h : Lw.RowLo n H v css) (hS : ∀ b, S b → b < n) : RowSt S H v css := by
  obtain ⟨vs, hx, hr, hl, hl2⟩ := h
  intro H' h'
  refine ⟨vs, ⟨row_ag hx.1 hl hS h', ?_⟩, hr.1, fun k hk => row_ag (hr.2 k hk) (hl2 _ (getD_mem (by rw [hr.1]; exact hk))) hS h'⟩
  have h2 := hx.2
  revert h2
  unfold Sim.erow
  split
  · exact fun h => h
  · rename_i a _ _
    split
    · have hn := hl _ _ _ rfl
      by_cases hlt : a.block < H.length
      · rw [h' _ hlt fun hs => by have := hS _ hs; omega]; exact fun h => h
      · rw [List.getElem?_eq_none (by omega)]; intro h; cases h
    · exact fun h => h
  · exact fun h => h
end
section
variable {α : Type} [Fl α] [DecidableEq α] {cd : α → Nat} {p e b c q : Nat} {blk : AB} {H : AH}
theorem back_ext {n : Nat} {A : List (List α)} (hA : LRed n A) : lreduce ((lreduce (A.map (lext n))).map (pick (n + 1 - 1) (skipP n))) = A := by
  have e : (lreduce (A.map (lext n))).map (pick (n + 1 - 1) (skipP n)) = (lreduce (A.map (lext n))).map (pick n fun j => j) := by
    refine List.map_congr_left fun x _ => ?_
    rw [Nat.add_sub_cancel]
    exact pick_congr fun j hj => by unfold skipP; rw [if_pos hj]
  rw [e]; exact ext_back hA
theorem ext_len {n : Nat} {A : List (List α)} (hA : LRed n A) : (∀ x ∈ lreduce (A.map (lext n)), x.length = n + 1) ∧ (lreduce (A.map (lext n))).length ≤ A.length := by
  obtain ⟨h1, _, h3⟩ := lreduce_red ((LM.ext n).width hA.len)
  exact ⟨h1.len, by rwa [List.length_map] at h3⟩
theorem evened_q (hq : q = 2) (Q : FQ α cd p e q blk) {v : Value} {n : Nat} {G : List (List α)} (hv : RowR H v (evr cd G)) (hl : ∀ x ∈ G, x.length = n) (hG : G.length ≤ 400) (hn : n ≤ 1000) (hn0 : 0 < n) :
    FN Tryz.prog 28 [codv q n v] H (RetG cd q n (lev (vsum n) G) H) := by
  subst hq; exact evened_c Q hv hl hG hn hn0
theorem lev_len {n : Nat} {A : List (List α)} (hl : ∀ x ∈ A, x.length = n) : (∀ x ∈ lev (vsum n) A, x.length = n) ∧ (lev (vsum n) A).length ≤ A.length := by
  obtain ⟨h1, _, h3⟩ := lreduce_red (lkept_len (f := vsum n) hl)
  refine ⟨h1.len, Nat.le_trans h3 ?_⟩
  unfold lkept
  split
  · exact Nat.le_refl _
  · rw [List.length_map]; exact List.length_eraseIdx_le ..
theorem lred_len {n : Nat} {rows : List (List α)} (hl : ∀ x ∈ rows, x.length = n) {m : Nat} (hm : rows.length ≤ m) : (lreduce rows).length ≤ m := Nat.le_trans (lreduce_red hl).2.2 hm
theorem lkept_le (f : Vc α → α) (G : List (List α)) : (lkept f G).length ≤ G.length := by
  unfold lkept
  split
  · exact Nat.le_refl _
  · rw [List.length_map]; exact List.length_eraseIdx_le ..
theorem punct_len {n i m : Nat} {G : List (List α)} (hm : G.length ≤ m) : (lreduce (G.map (pick (n - 1) (skipP i)))).length ≤ m :=
  lred_len (n := n - 1) (fun x hx => by obtain ⟨y, _, rfl⟩ := List.mem_map.1 hx; exact pick_len _ _ _) (by rw [List.length_map]; exact hm)
theorem short_len {n i m : Nat} {G : List (List α)} (hm : G.length ≤ m) : (lreduce ((lkept (fun v => v i) G).map (pick (n - 1) (skipP i)))).length ≤ m :=
  lred_len (n := n - 1) (fun x hx => by obtain ⟨y, _, rfl⟩ := List.mem_map.1 hx; exact pick_len _ _ _) (by rw [List.length_map]; exact Nat.le_trans (lkept_le _ _) hm)
def ExMo : Prop := ∀ H : AH, FN Tryz.prog 11 [] H (fun r H' => r = .bool true ∧ H' = H)
end
set_option maxHeartbeats 2000000 in
theorem law5 (hE : ExMo) {H : AH} {x y : Value} {us ws : List Nat} {k n m k2 n2 m2 z0 z1 z2 z3 z4 z5 : Nat} (hm : m < 256) (hm2 : m2 < 256) (hz : ∀ z ∈ [z0, z1, z2, z3, z4, z5], z < 256) (hus : ∀ u ∈ us, u < 256) (hws : ∀ u ∈ ws, u < 256) (hx : Row H x (us.map bv)) (hy : Row H y (ws.map bv)) :
    FN Tryz.prog 5 [rawv k n m x, rawv k2 n2 m2 y, .agg [bv z0, bv z1, bv z2, bv z3, bv z4, bv z5].toArray] H (fun r H' => r = .bool true ∧ H' = H) := by
  refine FN.pre0 (g5_of ?_) rfl
  unfold g5
  have hxo := hx.one
  have hyo := hy.one
  simp (disch := (first | omega | (simp only [stLen] <;> omega) | (simp only [all_nv]; done) | rfl)) only [zA, zB, zC, zD, zF, zG, zH, Nat.reduceEqDiff, Nat.reduceLT, Nat.reduceLeDiff, ↓reduceIte]
  refine FZ.use (hE _) ?_
  have s1 := stB_one (c := [bv k2, bv n2, bv m2, y]) (e := 24) (op := none) (H := H ++ [.cells [bv k, bv n, bv m, x] 24 none false, .cells [bv k2, bv n2, bv m2, y] 24 none false, .cells [bv z0, bv z1, bv z2, bv z3, bv z4, bv z5] 25 none false]) (bl := H.length + 1) (o := 0) (v := bv k) rfl rfl (by simp)
  have e1 : (H ++ [AB.cells [bv k, bv n, bv m, x] 24 none false, AB.cells [bv k2, bv n2, bv m2, y] 24 none false, AB.cells [bv z0, bv z1, bv z2, bv z3, bv z4, bv z5] 25 none false]).set (H.length + 1) (AB.cells ([bv k2, bv n2, bv m2, y].set 0 (bv k)) 24 none false) = H ++ [AB.cells [bv k, bv n, bv m, x] 24 none false, AB.cells [bv k, bv n2, bv m2, y] 24 none false, AB.cells [bv z0, bv z1, bv z2, bv z3, bv z4, bv z5] 25 none false] := by
    rw [List.set_append_right _ _ (by omega)]; simp
  rw [e1] at s1
  simp (disch := (first | omega | (simp only [stLen] <;> omega) | (simp only [all_nv]; done) | rfl)) only [zA, zB, zC, zD, zF, zG, zH, Nat.reduceEqDiff, Nat.reduceLT, Nat.reduceLeDiff, ↓reduceIte, s1]
  have hX0 := Pre.new H [.cells [bv k, bv n, bv m, x] 24 none false, .cells [bv k, bv n2, bv m2, y] 24 none false, .cells [bv z0, bv z1, bv z2, bv z3, bv z4, bv z5] 25 none false]
  obtain ⟨HX, hHX⟩ : ∃ HX, HX = H ++ [.cells [bv k, bv n, bv m, x] 24 none false, .cells [bv k, bv n2, bv m2, y] 24 none false, .cells [bv z0, bv z1, bv z2, bv z3, bv z4, bv z5] 25 none false] := ⟨_, rfl⟩
  have gx1 : HX[H.length + 1]? = some (.cells [bv k, bv n2, bv m2, y] 24 none false) := by rw [hHX]; simp
  have gx2 : HX[H.length + 2]? = some (.cells [bv z0, bv z1, bv z2, bv z3, bv z4, bv z5] 25 none false) := by rw [hHX]; simp
  have hXl : HX.length = H.length + 3 := by rw [hHX]; simp
  rw [← hHX] at hX0 ⊢
  obtain ⟨α, i1, i2, cd, p, e, blk, Q⟩ := Pf.fq_at (k % 6) (Nat.mod_lt _ (by omega))
  refine FZ.mono (made_c Q rfl hm hus (hx.pre hX0)) ?_
  rintro _ H6 ⟨hp6, va, A, rfl, hA, hA8, hva⟩
  obtain ⟨q, hq⟩ : ∃ q, q = Pf.ordM (k % 6) := ⟨_, rfl⟩
  obtain ⟨na, hna⟩ : ∃ na, na = 1 + n % 10 := ⟨_, rfl⟩
  obtain ⟨nb, hnb⟩ : ∃ nb, nb = 1 + n2 % 10 := ⟨_, rfl⟩
  have hna1 : 1 ≤ na ∧ na ≤ 10 := by omega
  have hnb1 : 1 ≤ nb ∧ nb ≤ 10 := by omega
  rw [← hna] at hA ⊢
  rw [← hq]
  have sa := stB_three (H := H6 ++ [.cells [nv 0, nv 0, .slice none 0 0] 29 none false]) (bl := H6.length) (x := nv q) (y := nv na) (z := va) (c0 := nv 0) (c1 := nv 0) (c2 := .slice none 0 0) (e := 29) (op := none) rfl rfl hva.one
  rw [set_last] at sa
  have gx16 := get_app (hp6.get gx1) [.cells [nv q, nv na, va] 29 none false]
  simp (disch := (first | omega | (simp only [stLen] <;> omega) | (simp only [all_nv]; done) | rfl)) only [zA, zB, zC, zD, zF, zG, zH, Nat.reduceEqDiff, Nat.reduceLT, Nat.reduceLeDiff, ↓reduceIte, sa, gx16]
  have hX8 := hX0.trans (hp6.trans (Pre.new H6 [.cells [nv q, nv na, va] 29 none false]))
  obtain ⟨H8, hH8⟩ : ∃ H8, H8 = H6 ++ [.cells [nv q, nv na, va] 29 none false] := ⟨_, rfl⟩
  have ga8 : H8[H6.length]? = some (.cells [nv q, nv na, va] 29 none false) := by rw [hH8]; simp
  have hA8' : RowR H8 va (evr cd A) := by rw [hH8]; exact hva.rowR.pre (Pre.new _ _)
  have gz8 : H8[H.length + 2]? = some (.cells [bv z0, bv z1, bv z2, bv z3, bv z4, bv z5] 25 none false) := by rw [hH8]; exact get_app (hp6.get gx2) _
  rw [← hH8] at hX8 ⊢
  have hl6 := hp6.len
  have hl8 : H8.length = H6.length + 1 := by rw [hH8]; simp
  clear sa gx16 hH8
  refine FZ.mono (made_c Q rfl hm2 hws (hy.pre hX8)) ?_
  rintro _ H9 ⟨hp9, vb, B, rfl, hB, hB8, hvb⟩
  rw [← hnb] at hB ⊢
  rw [← hq] at Q ⊢
  have sb := stB_three (H := H9 ++ [.cells [nv 0, nv 0, .slice none 0 0] 29 none false]) (bl := H9.length) (x := nv q) (y := nv nb) (z := vb) (c0 := nv 0) (c1 := nv 0) (c2 := .slice none 0 0) (e := 29) (op := none) rfl rfl hvb.one
  rw [set_last] at sb
  have ga9 := get_app (hp9.get ga8) [.cells [nv q, nv nb, vb] 29 none false]
  have gz9 := get_app (hp9.get gz8) [.cells [nv q, nv nb, vb] 29 none false]
  simp (disch := (first | omega | (simp only [stLen] <;> omega) | (simp only [all_nv]; done) | rfl)) only [zA, zB, zC, zD, zF, zG, zH, Nat.reduceEqDiff, Nat.reduceLT, Nat.reduceLeDiff, ↓reduceIte, sb, ga9, gz9]
  have hp11 : Pre H8 (H9 ++ [.cells [nv q, nv nb, vb] 29 none false]) := hp9.trans (Pre.new _ _)
  obtain ⟨H11, hH11⟩ : ∃ H11, H11 = H9 ++ [.cells [nv q, nv nb, vb] 29 none false] := ⟨_, rfl⟩
  have gb11 : H11[H9.length]? = some (.cells [nv q, nv nb, vb] 29 none false) := by rw [hH11]; simp
  have hB11 : RowR H11 vb (evr cd B) := by rw [hH11]; exact hvb.rowR.pre (Pre.new _ _)
  rw [← hH11] at hp11 ga9 ⊢
  have hA11 := hA8'.pre hp11
  have hX11 := hX8.trans hp11
  have hl9 := hp9.len
  have hl11 : H11.length = H9.length + 1 := by rw [hH11]; simp
  clear sb gz9 hH11
  refine FZ.mono bytes_c ?_
  rintro vz H12 ⟨hp12, hvz⟩
  have ga12 := hp12.get ga9
  simp (disch := (first | omega | (simp only [stLen] <;> omega) | (simp only [all_nv]; done) | rfl)) only [zA, zB, zC, zD, zF, zG, zH, Nat.reduceEqDiff, Nat.reduceLT, Nat.reduceLeDiff, ↓reduceIte, ga12]
  refine FZ.mono (shuffled_c (n := na) (fun u hu => hz u hu) hvz (by omega)) ?_
  rintro vg H13 ⟨hp13, hvg⟩
  have hpm := shuf_pm [z0, z1, z2, z3, z4, z5] na
  obtain ⟨g, hg⟩ : ∃ g, g = shuf [z0, z1, z2, z3, z4, z5] na := ⟨_, rfl⟩
  rw [← hg] at hpm hvg
  have hp1113 := hp12.trans hp13
  have ga13 := hp1113.get ga9
  simp (disch := (first | omega | (simp only [stLen] <;> omega) | (simp only [all_nv]; done) | rfl)) only [zA, zB, zC, zD, zF, zG, zH, Nat.reduceEqDiff, Nat.reduceLT, Nat.reduceLeDiff, ↓reduceIte, ga13]
  refine FZ.mono (extended_c Q ((hA11.pre hp1113)) hA.len (by omega) (by omega) (by omega)) ?_
  rintro _ H14 ⟨hp14, ve, rfl, hve⟩
  have hp1114 := hp1113.trans hp14
  have ga14 := hp14.get ga13
  have ga15 := get_app ga14 [.cells [nv q, nv (na + 1), ve, nv 0] 37 none false]
  have se := stB_four (H := H14 ++ [.cells [nv 0, nv 0, .slice none 0 0, nv 0] 37 none false]) (bl := H14.length) (x := nv q) (y := nv (na + 1)) (z := ve) (u := nv 0) (c0 := nv 0) (c1 := nv 0) (c2 := .slice none 0 0) (c3 := nv 0) (e := 37) (op := none) rfl rfl hve.one rfl
  rw [set_last] at se
  simp (disch := (first | omega | (simp only [stLen] <;> omega) | (simp only [all_nv]; done) | rfl)) only [zA, zB, zC, zD, zF, zG, zH, Nat.reduceEqDiff, Nat.reduceLT, Nat.reduceLeDiff, ↓reduceIte, se, ga15]
  have hp16 : Pre H14 (H14 ++ [.cells [nv q, nv (na + 1), ve, nv 0] 37 none false]) := Pre.new _ _
  obtain ⟨H16, hH16⟩ : ∃ H16, H16 = H14 ++ [.cells [nv q, nv (na + 1), ve, nv 0] 37 none false] := ⟨_, rfl⟩
  have ge16 : H16[H14.length]? = some (.cells [nv q, nv (na + 1), ve, nv 0] 37 none false) := by rw [hH16]; simp
  rw [← hH16] at hp16 ga15 ⊢
  have hE16 := hve.rowR.pre hp16
  have hl14 := hp14.len
  have hl16 : H16.length = H14.length + 1 := by rw [hH16]; simp
  clear se hH16
  obtain ⟨xl, xk⟩ := ext_len hA
  have hp1116 := hp1114.trans hp16
  refine FZ.mono (punctured_c Q hE16 xl (by omega) (by omega) (by omega) (Nat.lt_succ_self na)) ?_
  rintro _ H22 ⟨hp22, vp, rfl, hvp⟩
  rw [back_ext hA] at hvp
  have hnn : na + 1 - 1 = na := Nat.add_sub_cancel ..
  rw [hnn]
  have ga22 := hp22.get ga15
  have hA22 := hA11.pre (hp1116.trans hp22)
  simp (disch := (first | omega | (simp only [stLen] <;> omega) | (simp only [all_nv]; done) | rfl)) only [zA, zB, zC, zD, zF, zG, zH, Nat.reduceEqDiff, Nat.reduceLT, Nat.reduceLeDiff, ↓reduceIte, ga22]
  refine FZ.use (is_c hvp.rowR hA22 (by omega) (fun x hx => by rw [hA.len x hx]; omega)) ?_
  simp (disch := (first | omega | (simp only [stLen] <;> omega) | (simp only [all_nv]; done) | rfl)) only [zA, zB, zC, zD, zF, zG, zH, Nat.reduceEqDiff, Nat.reduceLT, Nat.reduceLeDiff, ↓reduceIte, ga22]
  refine FZ.mono (turned_c Q hA22 (hvg.pre (hp14.trans (hp16.trans hp22))) hpm hA.len (by omega) (by omega) hna1.1) ?_
  rintro _ H31 ⟨hp31, vt, rfl, hvt⟩
  have ga31 := hp31.get ga22
  have pc : ∀ q n (v : Value) er, xpure (.prt (some 3) 0) [gotv q n v er] = some (codv q n v) := fun _ _ _ _ => rfl
  simp (disch := (first | omega | (simp only [stLen] <;> omega) | (simp only [all_nv]; done) | rfl)) only [zA, zB, zC, zD, zF, zG, zH, Nat.reduceEqDiff, Nat.reduceLT, Nat.reduceLeDiff, ↓reduceIte, ga31, pc]
  refine FZ.mono (inverse_c ((hvg.pre (hp14.trans (hp16.trans hp22))).pre hp31) hpm (by omega)) ?_
  rintro vi H34 ⟨hp34, hvi⟩
  have ga34 := hp34.get ga31
  simp (disch := (first | omega | (simp only [stLen] <;> omega) | (simp only [all_nv]; done) | rfl)) only [zA, zB, zC, zD, zF, zG, zH, Nat.reduceEqDiff, Nat.reduceLT, Nat.reduceLeDiff, ↓reduceIte, ga34]
  obtain ⟨t1, _, t3⟩ := lreduce_red ((LM.pick na na (fun j => g.idxOf j)).width hA.len)
  rw [List.length_map] at t3
  change (lreduce (A.map (lmove na g))).length ≤ A.length at t3
  refine FZ.mono (turned_c Q (hvt.rowR.pre hp34) hvi (linv_pm hpm) t1.len (by omega) (by omega) hna1.1) ?_
  rintro _ H36 ⟨hp36, vt2, rfl, hvt2⟩
  have hmb := move_back hpm hA
  change Lw.RowLo _ _ _ (evr cd (lreduce ((lreduce (A.map (lmove na g))).map (lmove na (linv na g))))) at hvt2
  rw [hmb] at hvt2
  have ga36 := hp36.get ga34
  have hp2236 := hp31.trans (hp34.trans hp36)
  have hA36 := hA22.pre hp2236
  simp (disch := (first | omega | (simp only [stLen] <;> omega) | (simp only [all_nv]; done) | rfl)) only [zA, zB, zC, zD, zF, zG, zH, Nat.reduceEqDiff, Nat.reduceLT, Nat.reduceLeDiff, ↓reduceIte, ga36]
  refine FZ.use (is_c hvt2.rowR hA36 (by omega) (fun x hx => by rw [hA.len x hx]; omega)) ?_
  simp (disch := (first | omega | (simp only [stLen] <;> omega) | (simp only [all_nv]; done) | rfl)) only [zA, zB, zC, zD, zF, zG, zH, Nat.reduceEqDiff, Nat.reduceLT, Nat.reduceLeDiff, ↓reduceIte, ga36]
  have ge36 := (hp22.trans hp2236).get ge16
  have hE36 := hE16.pre (hp22.trans hp2236)
  have hA_36 : Pre H11 H36 := hp1116.trans (hp22.trans hp2236)
  by_cases hq2 : q = 2
  case' pos =>
    have hd : decide (q = 2) = true := decide_eq_true hq2
    obtain ⟨l1, l2⟩ := lev_len hA.len
    simp (disch := (first | omega | (simp only [stLen] <;> omega) | (simp only [all_nv]; done) | rfl)) only [zA, zB, zC, zD, zF, zG, zH, Nat.reduceEqDiff, Nat.reduceLT, Nat.reduceLeDiff, ↓reduceIte, hd, ga36]
    refine FZ.mono (evened_q hq2 Q hA36 hA.len (by omega) (by omega) hna1.1) ?_
    rintro _ H43 ⟨hp43, v43, rfl, hv43⟩
    have ga43 := hp43.get ga36
    simp (disch := (first | omega | (simp only [stLen] <;> omega) | (simp only [all_nv]; done) | rfl)) only [zA, zB, zC, zD, zF, zG, zH, Nat.reduceEqDiff, Nat.reduceLT, Nat.reduceLeDiff, ↓reduceIte, hd, ga43, pc]
    refine FZ.mono (evened_q hq2 Q hv43.rowR l1 (by omega) (by omega) hna1.1) ?_
    rintro _ H46 ⟨hp46, v46, rfl, hv46⟩
    rw [lev_lev (Lf.vsum na) hA.len] at hv46
    have ga46 := hp46.get ga43
    simp (disch := (first | omega | (simp only [stLen] <;> omega) | (simp only [all_nv]; done) | rfl)) only [zA, zB, zC, zD, zF, zG, zH, Nat.reduceEqDiff, Nat.reduceLT, Nat.reduceLeDiff, ↓reduceIte, hd, ga46]
    refine FZ.mono (evened_q hq2 Q (hA36.pre (hp43.trans hp46)) hA.len (by omega) (by omega) hna1.1) ?_
    rintro _ H48 ⟨hp48, v48, rfl, hv48⟩
    simp (disch := (first | omega | (simp only [stLen] <;> omega) | (simp only [all_nv]; done) | rfl)) only [zA, zB, zC, zD, zF, zG, zH, Nat.reduceEqDiff, Nat.reduceLT, Nat.reduceLeDiff, ↓reduceIte, hd, pc]
    refine FZ.use (is_c (hv46.rowR.pre hp48) hv48.rowR (by omega) (fun x hx => by rw [l1 x hx]; omega)) ?_
    have hp3648 := hp43.trans (hp46.trans hp48)
    have ge48 := hp3648.get ge36
    simp (disch := (first | omega | (simp only [stLen] <;> omega) | (simp only [all_nv]; done) | rfl)) only [zA, zB, zC, zD, zF, zG, zH, Nat.reduceEqDiff, Nat.reduceLT, Nat.reduceLeDiff, ↓reduceIte, hd, ge48]
    refine FZ.mono (evened_q hq2 Q (hE36.pre hp3648) xl (by omega) (by omega) (by omega)) ?_
    rintro _ H59 ⟨hp59, v59, rfl, hv59⟩
    rw [ext_even hA] at hv59
    have ge59 := hp59.get ge48
    simp (disch := (first | omega | (simp only [stLen] <;> omega) | (simp only [all_nv]; done) | rfl)) only [zA, zB, zC, zD, zF, zG, zH, Nat.reduceEqDiff, Nat.reduceLT, Nat.reduceLeDiff, ↓reduceIte, hd, ge59]
    refine FZ.use (is_c hv59.rowR (hE36.pre (hp3648.trans hp59)) (by omega) (fun x hx => by rw [xl x hx]; omega)) ?_
    simp (disch := (first | omega | (simp only [stLen] <;> omega) | (simp only [all_nv]; done) | rfl)) only [zA, zB, zC, zD, zF, zG, zH, Nat.reduceEqDiff, Nat.reduceLT, Nat.reduceLeDiff, ↓reduceIte, hd]
    have hp64 := hp3648.trans hp59
    obtain ⟨H64, hH64⟩ : ∃ H64, H64 = H59 := ⟨_, rfl⟩
    rw [← hH64] at hp64 ⊢
  case' neg =>
    have hd : decide (q = 2) = false := decide_eq_false hq2
    simp (disch := (first | omega | (simp only [stLen] <;> omega) | (simp only [all_nv]; done) | rfl)) only [zA, zB, zC, zD, zF, zG, zH, Nat.reduceEqDiff, Nat.reduceLT, Nat.reduceLeDiff, ↓reduceIte, hd]
    have hp64 := Pre.refl H36
    obtain ⟨H64, hH64⟩ : ∃ H64, H64 = H36 := ⟨_, rfl⟩
    rw [← hH64] at ⊢
    have hp64 : Pre H36 H64 := by rw [hH64]; exact Pre.refl _
  all_goals
    have ga64 := hp64.get ga36
    have gb64 := (hA_36.trans hp64).get gb11
    have hA64 := hA36.pre hp64
    have hB64 := hB11.pre (hA_36.trans hp64)
    simp (disch := (first | omega | (simp only [stLen] <;> omega) | (simp only [all_nv]; done) | rfl)) only [zA, zB, zC, zD, zF, zG, zH, Nat.reduceEqDiff, Nat.reduceLT, Nat.reduceLeDiff, ↓reduceIte, ga64, gb64]
    refine FZ.mono (summed_c Q hA64 hB64 hA.len hB.len (by omega) (by omega) hna1.1 hnb1.1 (by omega)) ?_
    rintro _ H65 ⟨hp65, vs, rfl, hvs⟩
    have hcs := Cd.sum (Cd.self hA) (Cd.self hB)
    have hsl : (lreduce (lsum na nb A B)).length ≤ 16 := lred_len (n := na + nb) (fun x hx => by
      rcases List.mem_append.1 hx with h | h
      · obtain ⟨y, _, rfl⟩ := List.mem_map.1 h; exact pick_len _ _ _
      · obtain ⟨y, _, rfl⟩ := List.mem_map.1 h; exact pick_len _ _ _) (by simp [lsum]; omega)
    obtain ⟨Gs, hGs⟩ : ∃ Gs, Gs = lreduce (lsum na nb A B) := ⟨_, rfl⟩
    rw [← hGs] at hcs hsl hvs
    have q1 := stB_four (H := H65 ++ [.cells [nv 0, nv 0, .slice none 0 0, nv 0] 37 none false]) (bl := H65.length) (x := nv q) (y := nv (na + nb)) (z := vs) (u := nv 0) (c0 := nv 0) (c1 := nv 0) (c2 := .slice none 0 0) (c3 := nv 0) (e := 37) (op := none) rfl rfl hvs.one rfl
    rw [set_last] at q1
    have q2 := stB_four (H := H65 ++ [.cells [nv q, nv (na + nb), vs, nv 0] 37 none false, .cells [nv 0, nv 0, .slice none 0 0, nv 0] 37 none false]) (bl := H65.length + 1) (x := nv q) (y := nv (na + nb)) (z := vs) (u := nv 0) (c0 := nv 0) (c1 := nv 0) (c2 := .slice none 0 0) (c3 := nv 0) (e := 37) (op := none) rfl rfl hvs.one rfl
    rw [show (H65 ++ [AB.cells [nv q, nv (na + nb), vs, nv 0] 37 none false, AB.cells [nv 0, nv 0, .slice none 0 0, nv 0] 37 none false]).set (H65.length + 1) (AB.cells [nv q, nv (na + nb), vs, nv 0] 37 none false) = H65 ++ [AB.cells [nv q, nv (na + nb), vs, nv 0] 37 none false, AB.cells [nv q, nv (na + nb), vs, nv 0] 37 none false] by rw [List.set_append_right _ _ (by omega)]; simp] at q2
    have q3 := stB_four (H := H65 ++ [.cells [nv q, nv (na + nb), vs, nv 0] 37 none false, .cells [nv q, nv (na + nb), vs, nv 0] 37 none false, .cells [nv 0, nv 0, .slice none 0 0, nv 0] 37 none false]) (bl := H65.length + 2) (x := nv q) (y := nv (na + nb)) (z := vs) (u := nv 0) (c0 := nv 0) (c1 := nv 0) (c2 := .slice none 0 0) (c3 := nv 0) (e := 37) (op := none) rfl rfl hvs.one rfl
    rw [show (H65 ++ [AB.cells [nv q, nv (na + nb), vs, nv 0] 37 none false, AB.cells [nv q, nv (na + nb), vs, nv 0] 37 none false, AB.cells [nv 0, nv 0, .slice none 0 0, nv 0] 37 none false]).set (H65.length + 2) (AB.cells [nv q, nv (na + nb), vs, nv 0] 37 none false) = H65 ++ [AB.cells [nv q, nv (na + nb), vs, nv 0] 37 none false, AB.cells [nv q, nv (na + nb), vs, nv 0] 37 none false, AB.cells [nv q, nv (na + nb), vs, nv 0] 37 none false] by rw [List.set_append_right _ _ (by omega)]; simp] at q3
    simp (disch := (first | omega | (simp only [stLen] <;> omega) | (simp only [all_nv]; done) | rfl)) only [zA, zB, zC, zD, zF, zG, zH, Nat.reduceEqDiff, Nat.reduceLT, Nat.reduceLeDiff, ↓reduceIte, q1, q2, q3]
    have hX71 := Pre.new H65 [.cells [nv q, nv (na + nb), vs, nv 0] 37 none false, .cells [nv q, nv (na + nb), vs, nv 0] 37 none false, .cells [nv q, nv (na + nb), vs, nv 0] 37 none false]
    obtain ⟨H71, hH71⟩ : ∃ H71, H71 = H65 ++ [AB.cells [nv q, nv (na + nb), vs, nv 0] 37 none false, AB.cells [nv q, nv (na + nb), vs, nv 0] 37 none false, AB.cells [nv q, nv (na + nb), vs, nv 0] 37 none false] := ⟨_, rfl⟩
    have gs71 : H71[H65.length]? = some (.cells [nv q, nv (na + nb), vs, nv 0] 37 none false) := by rw [hH71]; simp
    have gp71 : H71[H65.length + 1]? = some (.cells [nv q, nv (na + nb), vs, nv 0] 37 none false) := by rw [hH71]; simp
    have gq71 : H71[H65.length + 2]? = some (.cells [nv q, nv (na + nb), vs, nv 0] 37 none false) := by rw [hH71]; simp
    have hl71 : H71.length = H65.length + 3 := by rw [hH71]; simp
    rw [← hH71] at hX71 ⊢
    have hl65 := hp65.len
    have hl64 := hp64.len
    have hl36 := hA_36.len
    obtain ⟨S, hS⟩ : ∃ S : Nat → Prop, S = fun b => b = H65.length + 1 ∨ b = H65.length + 2 := ⟨_, rfl⟩
    have S1 : S (H65.length + 1) := by rw [hS]; exact .inl rfl
    have S2 : S (H65.length + 2) := by rw [hS]; exact .inr rfl
    have Sn : ∀ b, b ≤ H65.length → ¬ S b := fun b hb hs => by rw [hS] at hs; omega
    have Slt : ∀ b, S b → b < H65.length + 3 := fun b hs => by rw [hS] at hs; omega
    have Sge : ∀ b, S b → H65.length ≤ b := fun b hs => by rw [hS] at hs; omega
    have st0 : RowSt S H71 vs (evr cd Gs) := RowSt.ofPre hvs.rowR hX71 Sge
    have stA : RowSt S H71 va (evr cd A) := RowSt.ofPre (hA64.pre hp65) hX71 Sge
    have stB : RowSt S H71 vb (evr cd B) := RowSt.ofPre (hB64.pre hp65) hX71 Sge
    have ga71 := hX71.get (hp65.get ga64)
    have gb71 := hX71.get (hp65.get gb64)
    have hla : H6.length < H65.length := by omega
    have hlb : H9.length < H65.length := by omega
    have pre71 : Pre H H71 := hX11.trans (hA_36.trans (hp64.trans (hp65.trans hX71)))
    have fin : ∀ H' : AH, (∀ b, b < H71.length → ¬ S b → H'[b]? = H71[b]?) → Pre H H' := fun H' hf b hb => by
      rw [hf b (by have := pre71.len; omega) (Sn b (by have := hX11.len; omega))]; exact pre71 b hb
    have cd0 : Cd (na + nb - 0) Gs (fun u => ∃ v, SumS na (LSpan A) (LSpan B) v ∧ u = vdr 0 v) := hcs.cong sum_dr_0
    have cq0 : Cd (na + nb - 0) Gs (fun u => ∃ v, SumS na (LSpan A) (LSpan B) v ∧ (∀ j, j < 0 → v j = Fl.zero) ∧ u = vdr 0 v) := hcs.cong sum_dr0_0
    refine loopV1.nat na (fun k i H' => i = nv k ∧ (∀ b, b < H71.length → ¬ S b → H'[b]? = H71[b]?) ∧ H71.length ≤ H'.length ∧ ∃ vp Gp vq Gq, H'[H65.length + 1]? = some (.cells [nv q, nv (na + nb - k), vp, nv 0] 37 none false) ∧ H'[H65.length + 2]? = some (.cells [nv q, nv (na + nb - k), vq, nv 0] 37 none false) ∧
        RowSt S H' vp (evr cd Gp) ∧ RowSt S H' vq (evr cd Gq) ∧ Gp.length ≤ 16 ∧ Gq.length ≤ 16 ∧ Cd (na + nb - k) Gp (fun u => ∃ v, SumS na (LSpan A) (LSpan B) v ∧ u = vdr k v) ∧ Cd (na + nb - k) Gq (fun u => ∃ v, SumS na (LSpan A) (LSpan B) v ∧ (∀ j, j < k → v j = Fl.zero) ∧ u = vdr k v))
      ⟨rfl, fun _ _ _ => rfl, Nat.le_refl _, vs, Gs, vs, Gs, gp71, gq71, st0, st0, hsl, hsl, cd0, cq0⟩ ?_ ?_
    · rintro k i H72 hk ⟨rfl, hf, hlen, vp, Gp, vq, Gq, gp, gq, sp, sq, lp, lq, cp, cq⟩ J hJ
      have ga72 : H72[H6.length]? = some (.cells [nv q, nv na, va] 29 none false) := by rw [hf _ (by omega) (Sn _ (by omega))]; exact ga71
      simp (disch := (first | omega | (simp only [stLen] <;> omega) | (simp only [all_nv]; done) | rfl)) only [zA, zB, zC, zD, zF, zG, zH, Nat.reduceEqDiff, Nat.reduceLT, Nat.reduceLeDiff, ↓reduceIte, ga72, hk, gp]
      refine FZ.mono (punctured_c Q sp.now cp.red.len (by omega) (by omega) (by omega) (i := 0) (by omega)) ?_
      rintro _ H73 ⟨hp73, w73, rfl, hw73⟩
      have gp73 := hp73.get gp
      have gq73 := hp73.get gq
      have t1 := stB_four (H := H73) (bl := H65.length + 1) (x := nv q) (y := nv (na + nb - k - 1)) (z := w73) (u := nv 0) (c0 := nv q) (c1 := nv (na + nb - k)) (c2 := vp) (c3 := nv 0) (e := 37) (op := none) rfl rfl hw73.one rfl
      have st73 : RowSt S H73 w73 (evr cd (lreduce (Gp.map (pick (na + nb - k - 1) (skipP 0))))) := RowSt.ofLo hw73 fun b hs => by have := Slt b hs; omega
      have st74 := st73.set S1 (.cells [nv q, nv (na + nb - k - 1), w73, nv 0] 37 none false)
      have sq74 := (sq.pre hp73).set S1 (.cells [nv q, nv (na + nb - k - 1), w73, nv 0] 37 none false)
      have gq74 : (H73.set (H65.length + 1) (.cells [nv q, nv (na + nb - k - 1), w73, nv 0] 37 none false))[H65.length + 2]? = some (.cells [nv q, nv (na + nb - k), vq, nv 0] 37 none false) := by rw [List.getElem?_set_ne (by omega)]; exact gq73
      have gp74 : (H73.set (H65.length + 1) (.cells [nv q, nv (na + nb - k - 1), w73, nv 0] 37 none false))[H65.length + 1]? = some (.cells [nv q, nv (na + nb - k - 1), w73, nv 0] 37 none false) := List.getElem?_set_self (get_lt gp73)
      have hl73 := hp73.len
      have hf74 : ∀ b, b < H71.length → ¬ S b → (H73.set (H65.length + 1) (.cells [nv q, nv (na + nb - k - 1), w73, nv 0] 37 none false))[b]? = H71[b]? := fun b hb hn => by
        rw [List.getElem?_set_ne (fun e => hn (by rw [← e]; exact S1)), hp73 b (by omega), hf b hb hn]
      obtain ⟨H74, hH74⟩ : ∃ H74, H74 = H73.set (H65.length + 1) (.cells [nv q, nv (na + nb - k - 1), w73, nv 0] 37 none false) := ⟨_, rfl⟩
      have hl74 : H74.length = H73.length := by rw [hH74, List.length_set]
      rw [← hH74] at t1 st74 sq74 gq74 gp74 hf74
      simp (disch := (first | omega | (simp only [stLen] <;> omega) | (simp only [all_nv]; done) | rfl)) only [zA, zB, zC, zD, zF, zG, zH, Nat.reduceEqDiff, Nat.reduceLT, Nat.reduceLeDiff, ↓reduceIte, gp73, t1, gq74]
      refine FZ.mono (shortened_c Q sq74.now cq.red.len (by omega) (by omega) (by omega) (i := 0) (by omega)) ?_
      rintro _ H75 ⟨hp75, w75, rfl, hw75⟩
      have gq75 := hp75.get gq74
      have gp75 := hp75.get gp74
      have t2 := stB_four (H := H75) (bl := H65.length + 2) (x := nv q) (y := nv (na + nb - k - 1)) (z := w75) (u := nv 0) (c0 := nv q) (c1 := nv (na + nb - k)) (c2 := vq) (c3 := nv 0) (e := 37) (op := none) rfl rfl hw75.one rfl
      have hl75 := hp75.len
      have st75 : RowSt S H75 w75 (evr cd (lreduce ((lkept (fun v => v 0) Gq).map (pick (na + nb - k - 1) (skipP 0))))) := RowSt.ofLo hw75 fun b hs => by have := Slt b hs; omega
      simp (disch := (first | omega | (simp only [stLen] <;> omega) | (simp only [all_nv]; done) | rfl)) only [zA, zB, zC, zD, zF, zG, zH, Nat.reduceEqDiff, Nat.reduceLT, Nat.reduceLeDiff, ↓reduceIte, gq75, t2, hk]
      have hsub : na + nb - (k + 1) = na + nb - k - 1 := by omega
      refine hJ _ _ ⟨rfl, fun b hb hn => ?_, by rw [List.length_set]; omega, w73, _, w75, _, ?_, ?_, (st74.pre hp75).set S2 _, st75.set S2 _, punct_len lp, short_len lq, ?_, ?_⟩
      · rw [List.getElem?_set_ne (fun e => hn (by rw [← e]; exact S2)), hp75 b (by omega), hf74 b hb hn]
      · rw [List.getElem?_set_ne (by omega), hsub]; exact gp75
      · rw [hsub]; exact List.getElem?_set_self (get_lt gq75)
      · rw [hsub]; exact front_p (n := na) cp (by omega)
      · rw [hsub]; exact front_s cq (by omega)
    rintro i H72 ⟨rfl, hf, hlen, vp, Gp, vq, Gq, gp, gq, sp, sq, lp, lq, cp, cq⟩ J
    have ga72 : H72[H6.length]? = some (.cells [nv q, nv na, va] 29 none false) := by rw [hf _ (by omega) (Sn _ (by omega))]; exact ga71
    have gb72 : H72[H9.length]? = some (.cells [nv q, nv nb, vb] 29 none false) := by rw [hf _ (by omega) (Sn _ (by omega))]; exact gb71
    have gs72 : H72[H65.length]? = some (.cells [nv q, nv (na + nb), vs, nv 0] 37 none false) := by rw [hf _ (by omega) (Sn _ (by omega))]; exact gs71
    have hnb' : na + nb - na = nb := by omega
    rw [hnb'] at gp gq cp cq
    have eP : Gp = B := cp.eq (Cd.self hB) (sum_dr (Cd.self hA) (Cd.self hB))
    have eQ : Gq = B := cq.eq (Cd.self hB) (sum_dr0 (Cd.self hA) (Cd.self hB))
    rw [eP] at sp
    rw [eQ] at sq
    have sB72 := stB.step hf
    simp (disch := (first | omega | (simp only [stLen] <;> omega) | (simp only [all_nv]; done) | rfl)) only [zA, zB, zC, zD, zF, zG, zH, Nat.reduceEqDiff, Nat.reduceLT, Nat.reduceLeDiff, ↓reduceIte, ga72, gs72, gp, gb72]
    refine FZ.use (is_c sp.now sB72.now (by omega) (fun x hx => by rw [hB.len x hx]; omega)) ?_
    simp (disch := (first | omega | (simp only [stLen] <;> omega) | (simp only [all_nv]; done) | rfl)) only [zA, zB, zC, zD, zF, zG, zH, Nat.reduceEqDiff, Nat.reduceLT, Nat.reduceLeDiff, ↓reduceIte, gq, gb72]
    refine FZ.use (is_c sq.now sB72.now (by omega) (fun x hx => by rw [hB.len x hx]; omega)) ?_
    simp (disch := (first | omega | (simp only [stLen] <;> omega) | (simp only [all_nv]; done) | rfl)) only [zA, zB, zC, zD, zF, zG, zH, Nat.reduceEqDiff, Nat.reduceLT, Nat.reduceLeDiff, ↓reduceIte, gs72, gp, gq]
    have t3 := stB_four (H := H72) (bl := H65.length + 1) (x := nv q) (y := nv (na + nb)) (z := vs) (u := nv 0) (c0 := nv q) (c1 := nv nb) (c2 := vp) (c3 := nv 0) (e := 37) (op := none) rfl rfl hvs.one rfl
    obtain ⟨H87, hH87⟩ : ∃ H87, H87 = H72.set (H65.length + 1) (.cells [nv q, nv (na + nb), vs, nv 0] 37 none false) := ⟨_, rfl⟩
    have gs87 : H87[H65.length]? = some (.cells [nv q, nv (na + nb), vs, nv 0] 37 none false) := by rw [hH87, List.getElem?_set_ne (by omega)]; exact gs72
    have gp87 : H87[H65.length + 1]? = some (.cells [nv q, nv (na + nb), vs, nv 0] 37 none false) := by rw [hH87]; exact List.getElem?_set_self (get_lt gp)
    have gq87 : H87[H65.length + 2]? = some (.cells [nv q, nv nb, vq, nv 0] 37 none false) := by rw [hH87, List.getElem?_set_ne (by omega)]; exact gq
    have hf87 : ∀ b, b < H71.length → ¬ S b → H87[b]? = H71[b]? := fun b hb hn => by
      rw [hH87, List.getElem?_set_ne (fun e => hn (by rw [← e]; exact S1)), hf b hb hn]
    have hl87 : H87.length = H72.length := by rw [hH87, List.length_set]
    rw [← hH87] at t3
    have t4 := stB_four (H := H87) (bl := H65.length + 2) (x := nv q) (y := nv (na + nb)) (z := vs) (u := nv 0) (c0 := nv q) (c1 := nv nb) (c2 := vq) (c3 := nv 0) (e := 37) (op := none) rfl rfl hvs.one rfl
    obtain ⟨H88, hH88⟩ : ∃ H88, H88 = H87.set (H65.length + 2) (.cells [nv q, nv (na + nb), vs, nv 0] 37 none false) := ⟨_, rfl⟩
    have gp88 : H88[H65.length + 1]? = some (.cells [nv q, nv (na + nb), vs, nv 0] 37 none false) := by rw [hH88, List.getElem?_set_ne (by omega)]; exact gp87
    have gq88 : H88[H65.length + 2]? = some (.cells [nv q, nv (na + nb), vs, nv 0] 37 none false) := by rw [hH88]; exact List.getElem?_set_self (get_lt gq87)
    have hf88 : ∀ b, b < H71.length → ¬ S b → H88[b]? = H71[b]? := fun b hb hn => by
      rw [hH88, List.getElem?_set_ne (fun e => hn (by rw [← e]; exact S2)), hf87 b hb hn]
    have hl88 : H88.length = H87.length := by rw [hH88, List.length_set]
    rw [← hH88] at t4
    have ga88 : H88[H6.length]? = some (.cells [nv q, nv na, va] 29 none false) := by rw [hf88 _ (by omega) (Sn _ (by omega))]; exact ga71
    have gb88 : H88[H9.length]? = some (.cells [nv q, nv nb, vb] 29 none false) := by rw [hf88 _ (by omega) (Sn _ (by omega))]; exact gb71
    have h1ab : 1 ≤ na + nb := by omega
    simp (disch := (first | omega | (simp only [stLen] <;> omega) | (simp only [all_nv]; done) | rfl)) only [zA, zB, zC, zD, zF, zG, zH, Nat.reduceEqDiff, Nat.reduceLT, Nat.reduceLeDiff, ↓reduceIte, t3, gs87, gq87, t4, ga88, gb88, h1ab]
    have st88 := st0.step hf88
    have cp0 : Cd (na + nb) Gs (fun u => ∃ v, SumS na (LSpan A) (LSpan B) v ∧ u = vtk (na + nb) v) := hcs.cong (sum_tk_N hcs)
    have cq0 : Cd (na + nb) Gs (fun u => ∃ v, SumS na (LSpan A) (LSpan B) v ∧ (∀ j, na + nb ≤ j → j < na + nb → v j = Fl.zero) ∧ u = vtk (na + nb) v) := hcs.cong (sum_tk0_N hcs)
    refine loopV1.ind (fun t i H' => i = nv (na + t - 1) ∧ t ≤ nb ∧ (∀ b, b < H71.length → ¬ S b → H'[b]? = H71[b]?) ∧ H71.length ≤ H'.length ∧ ∃ vp Gp vq Gq, H'[H65.length + 1]? = some (.cells [nv q, nv (na + t), vp, nv 0] 37 none false) ∧ H'[H65.length + 2]? = some (.cells [nv q, nv (na + t), vq, nv 0] 37 none false) ∧
        RowSt S H' vp (evr cd Gp) ∧ RowSt S H' vq (evr cd Gq) ∧ Gp.length ≤ 16 ∧ Gq.length ≤ 16 ∧ Cd (na + t) Gp (fun u => ∃ v, SumS na (LSpan A) (LSpan B) v ∧ u = vtk (na + t) v) ∧ Cd (na + t) Gq (fun u => ∃ v, SumS na (LSpan A) (LSpan B) v ∧ (∀ j, na + t ≤ j → j < na + nb → v j = Fl.zero) ∧ u = vtk (na + t) v)) nb
      ⟨rfl, Nat.le_refl _, hf88, by omega, vs, Gs, vs, Gs, gp88, gq88, st88, st88, hsl, hsl, cp0, cq0⟩ ?_
    clear gp gq sp sq lp lq cp cq t3 t4 gp88 gq88 st88 cp0 cq0 gs87 gp87 gq87
    rintro t i H89 ⟨rfl, htn, hf89, hlen89, vp, Gp, vq, Gq, gp, gq, sp, sq, lp, lq, cp, cq⟩ J hJ
    have ga89 : H89[H6.length]? = some (.cells [nv q, nv na, va] 29 none false) := by rw [hf89 _ (by omega) (Sn _ (by omega))]; exact ga71
    rcases t with _ | t
    · have hc0 : ¬ na ≤ na - 1 := by omega
      rw [Nat.add_zero] at gp gq cp cq
      have eP : Gp = A := cp.eq (Cd.self hA) (sum_tk (Cd.self hA) (Cd.self hB))
      have eQ : Gq = A := cq.eq (Cd.self hA) (sum_tk0 (Cd.self hA) (Cd.self hB))
      rw [eP] at sp
      rw [eQ] at sq
      have sA89 := stA.step hf89
      simp (disch := (first | omega | (simp only [stLen] <;> omega) | (simp only [all_nv]; done) | rfl)) only [zA, zB, zC, zD, zF, zG, zH, Nat.reduceEqDiff, Nat.reduceLT, Nat.reduceLeDiff, ↓reduceIte, ga89, hc0, gp]
      refine FZ.use (is_c sp.now sA89.now (by omega) (fun x hx => by rw [hA.len x hx]; omega)) ?_
      simp (disch := (first | omega | (simp only [stLen] <;> omega) | (simp only [all_nv]; done) | rfl)) only [zA, zB, zC, zD, zF, zG, zH, Nat.reduceEqDiff, Nat.reduceLT, Nat.reduceLeDiff, ↓reduceIte, gq, ga89]
      refine FZ.use (is_c sq.now sA89.now (by omega) (fun x hx => by rw [hA.len x hx]; omega)) ?_
      simp (disch := (first | omega | (simp only [stLen] <;> omega) | (simp only [all_nv]; done) | rfl)) only [zA, zB, zC, zD, zF, zG, zH, Nat.reduceEqDiff, Nat.reduceLT, Nat.reduceLeDiff, ↓reduceIte]
      exact fin _ hf89
    · have e1 : na + (t + 1) - 1 = na + t := by omega
      rw [e1]
      have hc1 : na ≤ na + t := by omega
      simp (disch := (first | omega | (simp only [stLen] <;> omega) | (simp only [all_nv]; done) | rfl)) only [zA, zB, zC, zD, zF, zG, zH, Nat.reduceEqDiff, Nat.reduceLT, Nat.reduceLeDiff, ↓reduceIte, ga89, hc1, gp]
      refine FZ.mono (punctured_c Q sp.now cp.red.len (by omega) (by omega) (by omega) (i := na + t) (by omega)) ?_
      rintro _ H90 ⟨hp90, w90, rfl, hw90⟩
      rw [e1]
      have gp90 := hp90.get gp
      have gq90 := hp90.get gq
      have t1 := stB_four (H := H90) (bl := H65.length + 1) (x := nv q) (y := nv (na + t)) (z := w90) (u := nv 0) (c0 := nv q) (c1 := nv (na + (t + 1))) (c2 := vp) (c3 := nv 0) (e := 37) (op := none) rfl rfl hw90.one rfl
      have st90 : RowSt S H90 w90 (evr cd (lreduce (Gp.map (pick (na + t) (skipP (na + t)))))) := RowSt.ofLo (by have := hw90; rw [e1] at this; exact this) fun b hs => by have := Slt b hs; omega
      have st91 := st90.set S1 (.cells [nv q, nv (na + t), w90, nv 0] 37 none false)
      have sq91 := (sq.pre hp90).set S1 (.cells [nv q, nv (na + t), w90, nv 0] 37 none false)
      have gq91 : (H90.set (H65.length + 1) (.cells [nv q, nv (na + t), w90, nv 0] 37 none false))[H65.length + 2]? = some (.cells [nv q, nv (na + (t + 1)), vq, nv 0] 37 none false) := by rw [List.getElem?_set_ne (by omega)]; exact gq90
      have gp91 : (H90.set (H65.length + 1) (.cells [nv q, nv (na + t), w90, nv 0] 37 none false))[H65.length + 1]? = some (.cells [nv q, nv (na + t), w90, nv 0] 37 none false) := List.getElem?_set_self (get_lt gp90)
      have hl90 := hp90.len
      have hf91 : ∀ b, b < H71.length → ¬ S b → (H90.set (H65.length + 1) (.cells [nv q, nv (na + t), w90, nv 0] 37 none false))[b]? = H71[b]? := fun b hb hn => by
        rw [List.getElem?_set_ne (fun e => hn (by rw [← e]; exact S1)), hp90 b (by omega), hf89 b hb hn]
      obtain ⟨H91, hH91⟩ : ∃ H91, H91 = H90.set (H65.length + 1) (.cells [nv q, nv (na + t), w90, nv 0] 37 none false) := ⟨_, rfl⟩
      have hl91 : H91.length = H90.length := by rw [hH91, List.length_set]
      rw [← hH91] at t1 st91 sq91 gq91 gp91 hf91
      simp (disch := (first | omega | (simp only [stLen] <;> omega) | (simp only [all_nv]; done) | rfl)) only [zA, zB, zC, zD, zF, zG, zH, Nat.reduceEqDiff, Nat.reduceLT, Nat.reduceLeDiff, ↓reduceIte, gp90, t1, gq91]
      refine FZ.mono (shortened_c Q sq91.now cq.red.len (by omega) (by omega) (by omega) (i := na + t) (by omega)) ?_
      rintro _ H92 ⟨hp92, w92, rfl, hw92⟩
      rw [e1]
      have gq92 := hp92.get gq91
      have gp92 := hp92.get gp91
      have t2 := stB_four (H := H92) (bl := H65.length + 2) (x := nv q) (y := nv (na + t)) (z := w92) (u := nv 0) (c0 := nv q) (c1 := nv (na + (t + 1))) (c2 := vq) (c3 := nv 0) (e := 37) (op := none) rfl rfl hw92.one rfl
      have hl92 := hp92.len
      have st92 : RowSt S H92 w92 (evr cd (lreduce ((lkept (fun v => v (na + t)) Gq).map (pick (na + t) (skipP (na + t)))))) := RowSt.ofLo (by have := hw92; rw [e1] at this; exact this) fun b hs => by have := Slt b hs; omega
      have h1t : 1 ≤ na + t := by omega
      simp (disch := (first | omega | (simp only [stLen] <;> omega) | (simp only [all_nv]; done) | rfl)) only [zA, zB, zC, zD, zF, zG, zH, Nat.reduceEqDiff, Nat.reduceLT, Nat.reduceLeDiff, ↓reduceIte, gq92, t2, h1t]
      refine hJ _ _ ⟨t, by omega, rfl, by omega, fun b hb hn => ?_, by rw [List.length_set]; omega, w90, _, w92, _, ?_, ?_, (st91.pre hp92).set S2 _, st92.set S2 _, ?_, ?_, back_p cp, back_s cq (by omega)⟩
      · rw [List.getElem?_set_ne (fun e => hn (by rw [← e]; exact S2)), hp92 b (by omega), hf91 b hb hn]
      · rw [List.getElem?_set_ne (by omega)]; exact gp92
      · exact List.getElem?_set_self (get_lt gq92)
      · have := punct_len (n := na + t + 1) (i := na + t) lp; exact this
      · have := short_len (n := na + t + 1) (i := na + t) lq; exact this
  
end Go.Sim
