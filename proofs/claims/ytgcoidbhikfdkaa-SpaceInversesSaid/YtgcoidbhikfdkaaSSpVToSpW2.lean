/- Part of the proof: SpV, SpX1, SpX2, SpX3, SpX4, SpX5, SpX6, SpX7, SpW, SpW2. -/
import Derived.Test.YtgcoidbhikfdkaaSSpAToSpU
set_option linter.all false
namespace Go.Sim
open Go Go.Proofs
theorem Rws.append {H : AH} {vs ws : List Value} {A B : List (List Value)} (h1 : Rws H vs A) (h2 : Rws H ws B) : Rws H (vs ++ ws) (A ++ B) := by
  refine ⟨by simp [h1.1, h2.1], fun k hk => ?_⟩
  have e1 := h1.1
  simp only [List.getD_eq_getElem?_getD]
  by_cases hkA : k < vs.length
  · rw [List.getElem?_append_left hkA, List.getElem?_append_left (by omega)]
    have := h1.2 k (by omega)
    simpa only [List.getD_eq_getElem?_getD] using this
  · rw [List.getElem?_append_right (by omega), List.getElem?_append_right (by omega)]
    have := h2.2 (k - vs.length) (by simp at hk; omega)
    simp only [List.getD_eq_getElem?_getD] at this
    rw [e1] at this ⊢
    exact this
theorem Rws.ones {H : AH} {us : List Value} {css : List (List Value)} (h : Rws H us css) : us.all one = true := by
  rw [List.all_eq_true]
  intro x hx
  obtain ⟨k, hk, rfl⟩ := List.mem_iff_getElem.1 hx
  have := (h.2 k (by rw [← h.1]; exact hk)).one
  simpa [List.getD_eq_getElem?_getD, List.getElem?_eq_getElem hk] using this
theorem cloneR_any {H : AH} {v : Value} {css : List (List Value)} (hv : RowR H v css) (hn : css.length ≤ 1000000) : FN Try.prog 100 [v] H (fun r H' => Pre H H' ∧ ∃ vs, Acc H H' r vs 26 ∧ Rws H vs css) := by
  obtain ⟨vs, hvs, hv2⟩ := hv
  have hl := hv2.1
  by_cases h0 : vs = []
  · subst h0
    have hc : css = [] := List.eq_nil_of_length_eq_zero (by simpa using hl.symm)
    subst hc
    refine g100_of ?_
    unfold g100
    obtain ⟨a, l, c, rfl⟩ : ∃ a l c, v = .slice a l c := by
      have := hvs.1.isSl
      cases v <;> simp [isSl] at this
      exact ⟨_, _, _, rfl⟩
    have e0 : xbin .eql 2 (.slice a l c) (.slice none 0 0) = some (.bool a.isNone) := by simp [xbin]
    cases ha : a.isNone with
    | true =>
      rw [ha] at e0
      simp (disch := omega) only [zA, zB, zC, zD, zF, zG, zH, ↓reduceIte, e0]
      exact ⟨Pre.refl _, [], Acc.nil, ⟨rfl, by simp⟩⟩
    | false =>
      rw [ha] at e0
      have hp := Pre.new H [.cells [] 26 none false]
      obtain ⟨v', H', e1, a1, p1, _⟩ := Acc.appR (by_ := 24) (H0 := H) (H := H ++ [.cells [] 26 none false]) (by simp) (Own.new (Nat.le_refl _) (cs := []) (e := 26) (n := 0) rfl (Y := [])).acc (hvs.pre hp) (by simp) (by simp) (by simp)
      simp (disch := omega) only [zA, zB, zC, zD, zF, zG, zH, ↓reduceIte, e0, e1]
      exact ⟨p1 hp, [], by simpa using a1, ⟨rfl, by simp⟩⟩
  · refine (cloneR_c hvs h0 hv2.ones (by omega)).mono ?_
    rintro r H' ⟨hp', ha⟩
    exact ⟨hp', vs, ha, hv2⟩
section
variable {α : Type} [Fl α] [DecidableEq α] {cd : α → Nat} {p e b c q : Nat} {blk : AB} {H : AH}
theorem join_p (F : FOK α cd p e b c q blk) {v w : Value} {n : Nat} {A B : List (List α)} (hb : H[b]? = some blk) (hv : RowR H v (evr cd A)) (hw : RowR H w (evr cd B)) (hA : ∀ x ∈ A, x.length = n) (hB : ∀ x ∈ B, x.length = n) (hlA : A.length ≤ 400) (hlB : B.length ≤ 400) (hn : n ≤ 1000) (hn0 : 0 < n) :
    FN Try.prog 48 [fldv p e b e c, v, w] H (fun r H' => Pre H H' ∧ RowR H' r (evr cd (lreduce (A ++ B)))) := by
  refine g48_of ?_
  unfold g48
  obtain ⟨vs, hvs, hv2⟩ := hv
  obtain ⟨ws, hws, hw2⟩ := hw
  have hl1 : vs.length = A.length := by simpa using hv2.1
  have hl2 : ws.length = B.length := by simpa using hw2.1
  have hp2 := Pre.new H [fbx p e b c, .cells [v, w] 27 none false]
  simp (disch := (first | omega | (simp only [stLen] <;> omega) | (simp only [all_nv]; done) | rfl)) only [zA, zB, zC, zD, zF, zG, zH, Nat.reduceEqDiff, Nat.reduceLT, Nat.reduceLeDiff, ↓reduceIte, hvs.1.fill, hws.1.fill]
  have hsl : Row (H ++ [fbx p e b c, .cells [v, w] 27 none false]) (.slice (some ⟨H.length + 1, 0, none⟩) 2 2) [v, w] := Row.of (e := 27) (op := none) (r := false) (by simp) rfl (Nat.le_refl _)
  refine FZ.mono (concatR_c hsl (uss := [vs, ws]) rfl (fun k hk => ?_) (by intro us hus; simp at hus; rcases hus with rfl | rfl; exact hv2.ones; exact hw2.ones) (by simp; omega) (by simp)) ?_
  · simp at hk
    rcases (show k = 0 ∨ k = 1 by omega) with rfl | rfl
    · exact hvs.pre hp2
    · exact hws.pre hp2
  rintro s H3 ⟨hp3, ha⟩
  have hp03 := hp2.trans hp3
  have hbx3 := hp3.get (b := H.length) (x := fbx p e b c) (by simp)
  simp (disch := omega) only [zA, zB, zC, zD, zF, zG, zH, ↓reduceIte, hbx3]
  have hrows : RowR H3 s (evr cd (A ++ B)) := ⟨vs ++ ws, by simpa using ha.x, by simpa using (hv2.pre hp03).append (hw2.pre hp03)⟩
  refine FZ.mono (reduce_p F (n := n) (hp03.get hb) hrows (fun x hx => (List.mem_append.1 hx).elim (hA x) (hB x)) (by simp; omega) hn hn0) ?_
  rintro r H5 ⟨hp5, hr⟩
  exact ⟨hp03.trans hp5, hr⟩
def lbeside (A B : List (List α)) : List (List α) := List.zipWith (fun x y => x ++ y) A B
theorem beside_p {v w : Value} {n m : Nat} {A B : List (List α)} (hv : RowR H v (evr cd A)) (hw : RowR H w (evr cd B)) (hA : ∀ x ∈ A, x.length = n) (hB : ∀ x ∈ B, x.length = m) (hlA : A.length ≤ 400) (hlB : A.length = B.length) (hn : n ≤ 1000) (hm : m ≤ 1000) (hn0 : 0 < n) (hm0 : 0 < m) :
    FN Try.prog 103 [v, w] H (fun r H' => Pre H H' ∧ RowR H' r (evr cd (lbeside A B))) := by
  refine g103_of ?_
  unfold g103
  obtain ⟨vs, hvs, hvl, hvr⟩ := hv.open
  obtain ⟨ws, hws, hwl, hwr⟩ := hw.open
  obtain ⟨vl, _, _, _⟩ := hvs.allV
  simp (disch := omega) only [zA, zB, zC, zD, zF, zG, zH, ↓reduceIte, vl]
  have hbl : (lbeside A B).length = A.length := by simp [lbeside, hlB]
  refine loopV2.nat A.length (fun k s i H' => i = nv k ∧ Pre H H' ∧ AccR H H' s (evr cd ((lbeside A B).take k)) 26) ⟨rfl, Pre.refl _, AccR.nil⟩ ?_ ?_
  · rintro k s i H1 hk ⟨rfl, hp, ho⟩ J hJ
    obtain ⟨_, vi, vd, _⟩ := (hvs.pre hp).allV
    obtain ⟨_, wi, wd, _⟩ := (hws.pre hp).allV
    have hk1 : k < vs.length := by omega
    have hk2 : k < ws.length := by omega
    have r1 := (hvr k hk).pre hp
    have r2 := (hwr k (by omega)).pre hp
    have hw1 := row_len hA hk
    have hw2 := row_len hB (show k < B.length by omega)
    have n1 : evs cd (A.getD k []) ≠ [] := fun h => by have h2 := congrArg List.length h; rw [List.length_map, hw1] at h2; simp at h2; omega
    have n2 : evs cd (B.getD k []) ≠ [] := fun h => by have h2 := congrArg List.length h; rw [List.length_map, hw2] at h2; simp at h2; omega
    simp (disch := (first | omega | (simp only [stLen] <;> omega) | (simp only [all_nv]; done) | rfl)) only [zA, zB, zC, zD, zF, zG, zH, Nat.reduceEqDiff, Nat.reduceLT, Nat.reduceLeDiff, ↓reduceIte, vi, vd, hk1, wi, wd, hk2, r1.fill, r2.fill]
    have hp2 := Pre.new H1 [.cells [vs.getD k undef, ws.getD k undef] 26 none false]
    have hsl : Row (H1 ++ [.cells [vs.getD k undef, ws.getD k undef] 26 none false]) (.slice (some ⟨H1.length, 0, none⟩) 2 2) [vs.getD k undef, ws.getD k undef] := Row.of (e := 26) (op := none) (r := false) (by simp) rfl (Nat.le_refl _)
    refine FZ.mono (concat_c hsl (uss := [evs cd (A.getD k []), evs cd (B.getD k [])]) rfl (fun j hj => ?_) (by intro us hus; simp only [List.mem_cons, List.not_mem_nil, or_false] at hus; rcases hus with rfl | rfl <;> simp [one]) (by simp only [List.flatten_cons, List.flatten_nil, List.append_nil, List.length_append, List.length_map, hw1, hw2]; omega) (by simp)) ?_
    · simp at hj
      rcases (show j = 0 ∨ j = 1 by omega) with rfl | rfl
      · exact (r1.pre hp2).x n1
      · exact (r2.pre hp2).x n2
    rintro u H3 ⟨hp3, ha⟩
    have hp13 := hp2.trans hp3
    have hpp := hp.trans hp13
    have hu : Row H3 u (evs cd (A.getD k [] ++ B.getD k [])) := by simpa using ha.row
    obtain ⟨out', H5, e1, ho', hp', _⟩ := (ho.pre hp13).app1 (by_ := 24) hpp.len hu (evs_plain _) (by simp; omega) (by simp; omega) (e2 := 26)
    simp (disch := (first | omega | (simp only [stLen] <;> omega) | (simp only [all_nv]; done) | rfl)) only [zA, zB, zC, zD, zF, zG, zH, Nat.reduceEqDiff, Nat.reduceLT, Nat.reduceLeDiff, ↓reduceIte, hu.fill, e1]
    refine hJ _ _ _ ⟨rfl, hp' hpp, ?_⟩
    have he : (lbeside A B).take (k + 1) = (lbeside A B).take k ++ [A.getD k [] ++ B.getD k []] := by
      rw [List.take_succ_eq_append_getElem (by omega)]
      simp [lbeside, List.getD_eq_getElem?_getD, List.getElem?_eq_getElem hk, List.getElem?_eq_getElem (show k < B.length by omega)]
    rw [he]
    simpa using ho'
  · rintro s i H1 ⟨rfl, hp, ho⟩ J
    simp (disch := omega) only [zA, zB, zC, zD, zF, zG, zH, ↓reduceIte, hvl]
    rw [List.take_of_length_le (by omega)] at ho
    exact ⟨hp, ho.rowR⟩
theorem apply_p (F : FOK α cd p e b c q blk) {v w : Value} {xss : List (List α)} {ys : List α} (hb : H[b]? = some blk) (hv : RowR H v (evr cd xss)) (hw : Row H w (evs cd ys)) (hl : ∀ x ∈ xss, x.length = ys.length) (hx : xss.length ≤ 1000) (hy : ys.length ≤ 1000) :
    FN Try.prog 41 [fldv p e b e c, v, w] H (fun r H' => Pre H H' ∧ Acc H H' r (evs cd (xss.map fun x => ldot x ys)) 3) := by
  refine g41_of ?_
  unfold g41
  obtain ⟨vs, hvs, hvl, hvr⟩ := hv.open
  obtain ⟨vl, vi0, vd0, vd⟩ := hvs.allV
  obtain ⟨wl, wi, wd0, wd⟩ := hw.all Fl.zero
  have hmk : 8 * vs.length ≤ 281474976710656 := by omega
  have hb2 := get_app hb
  simp (disch := omega) only [zA, zB, zC, zD, zF, zG, zH, ↓reduceIte, vl, xnew_makeN, hmk]
  have hz0 : (List.replicate vs.length 0).map nv = evs cd (((xss.map fun x => ldot x ys).take 0) ++ (List.replicate xss.length (Fl.zero : α)).drop 0) := by
    rw [hvl]; simpa using (zero_evs (α := α) F (n := xss.length))
  refine loopV1.nat xss.length (fun k i H' => i = nv k ∧ H' = H ++ [fbx p e b c, .cells (evs cd (((xss.map fun x => ldot x ys).take k) ++ (List.replicate xss.length (Fl.zero : α)).drop k)) 3 none false]) ⟨rfl, by rw [← hz0]⟩ ?_ ?_
  · rintro k i _ hk ⟨rfl, rfl⟩ J hJ
    have hk' : k < vs.length := by omega
    have r1 := hvr k hk
    obtain ⟨rl, ri, rd0, rd⟩ := r1.all Fl.zero
    have hrw : (xss.getD k []).length = ys.length := row_len hl hk
    rw [hrw] at rl
    generalize hZ : ((xss.map fun x => ldot x ys).take k) ++ (List.replicate xss.length (Fl.zero : α)).drop k = Z
    have hZl : Z.length = xss.length := by rw [← hZ]; simp; omega
    have hZk : Z.getD k Fl.zero = Fl.zero := by
      rw [← hZ, pre_get Fl.zero (List.replicate xss.length (Fl.zero : α)) (xss.map fun x => ldot x ys) k (by simp)]
      simp [List.getD_eq_getElem?_getD, List.getElem?_replicate, hk]
    have hZs : Z.set k (ldot (xss.getD k []) ys) = ((xss.map fun x => ldot x ys).take (k + 1)) ++ (List.replicate xss.length (Fl.zero : α)).drop (k + 1) := by
      rw [← pre_set Fl.zero (List.replicate xss.length (Fl.zero : α)) (xss.map fun x => ldot x ys) k (by simp) (by simpa using hk), hZ]
      congr 1
      simp [List.getD_eq_getElem?_getD, List.getElem?_eq_getElem hk]
    have hself : Z.set k Fl.zero = Z := by
      refine List.ext_getElem (by simp) fun l h1 h2 => ?_
      by_cases hlk : k = l
      · subst hlk; simpa [List.getD_eq_getElem?_getD, List.getElem?_eq_getElem h2] using hZk.symm
      · simp [List.getElem_set_ne hlk]
    simp (disch := omega) only [zA, zB, zC, zD, zF, zG, zH, ↓reduceIte, hk', vi0, vd, rl]
    refine loopV1.nat ys.length (fun j i H' => i = nv j ∧ H' = H ++ [fbx p e b c, .cells (evs cd (Z.set k (ldotk (xss.getD k []) ys j))) 3 none false]) ⟨rfl, by rw [ldotk, hself]⟩ ?_ ?_
    · rintro j i _ hj ⟨rfl, rfl⟩ J2 hJ2
      have hcell : (H ++ [fbx p e b c, .cells (evs cd (Z.set k (ldotk (xss.getD k []) ys j))) 3 none false])[H.length + 1]? = some (.cells (evs cd (Z.set k (ldotk (xss.getD k []) ys j))) 3 none false) := by simp
      have l1 := ld_ev hcell (k := k) (by simp; omega)
      have e2 : (Z.set k (ldotk (xss.getD k []) ys j)).getD k Fl.zero = ldotk (xss.getD k []) ys j := by rw [getD_set (by omega), if_pos rfl]
      rw [e2] at l1
      have s1 := st_ev (x := ldotk (xss.getD k []) ys (j + 1)) hcell (k := k) (by simp; omega)
      rw [List.set_set] at s1
      simp only [set_new, List.set_cons_succ, List.set_cons_zero] at s1
      have hjr : j < (xss.getD k []).length := by omega
      simp (disch := omega) only [zA, zB, zC, zD, zF, zG, zH, ↓reduceIte, hj, ri, rd, hjr, wi, wd, hk', l1]
      refine FZ.use (F.mul _ _ _ (hb2 _)) ?_
      simp (disch := omega) only [zA, zB, zC, zD, zF, zG, zH, ↓reduceIte, l1]
      refine FZ.use (F.add _ _ _ (hb2 _)) ?_
      rw [show Fl.add (ldotk (xss.getD k []) ys j) (Fl.mul ((xss.getD k []).getD j Fl.zero) (ys.getD j Fl.zero)) = ldotk (xss.getD k []) ys (j + 1) from rfl]
      simp (disch := omega) only [zA, zB, zC, zD, zF, zG, zH, ↓reduceIte, hk', s1]
      exact hJ2 _ _ ⟨rfl, rfl⟩
    · rintro i _ ⟨rfl, rfl⟩ J2
      have hld : ldotk (xss.getD k []) ys ys.length = ldot (xss.getD k []) ys := by rw [ldot, hrw]
      rw [hld, hZs]
      simp (disch := omega) only [zA, zB, zC, zD, zF, zG, zH, ↓reduceIte, hk']
      exact hJ _ _ ⟨rfl, rfl⟩
  · rintro i _ ⟨rfl, rfl⟩ J
    simp (disch := omega) only [zA, zB, zC, zD, zF, zG, zH, ↓reduceIte, hvl]
    rw [List.take_of_length_le (by simp), List.drop_of_length_le (by simp), List.append_nil]
    refine ⟨Pre.new _ _, ?_⟩
    have := Acc.start1 (H := H) (x := fbx p e b c) (e := 3) (cs := evs cd (xss.map fun x => ldot x ys)) (n := xss.length) (by simp) (Y := [])
    exact this.mono (by simp)
theorem has_p (F : FOK α cd p e b c q blk) {v w : Value} {n : Nat} {rows : List (List α)} {xs : List α} (hb : H[b]? = some blk) (hv : RowR H v (evr cd rows)) (hw : Row H w (evs cd xs)) (hl : ∀ x ∈ rows, x.length = n) (hx : xs.length = n) (hR : rows.length ≤ 400) (hn : n ≤ 1000) (hn0 : 0 < n) :
    FN Try.prog 46 [fldv p e b e c, v, w] H (fun r H' => r = .bool (decide ((lreduce (rows ++ [xs])).length = (lreduce rows).length)) ∧ H' = H) := by
  refine FN.pre0 (g46_of ?_) rfl
  unfold g46
  have hp2 := Pre.new H [fbx p e b c, .cells [w] 26 none false]
  simp (disch := (first | omega | (simp only [stLen] <;> omega) | (simp only [all_nv]; done) | rfl)) only [zA, zB, zC, zD, zF, zG, zH, Nat.reduceEqDiff, Nat.reduceLT, Nat.reduceLeDiff, ↓reduceIte, hw.fill]
  refine FZ.mono (cloneR_any (hv.pre hp2) (by simp; omega)) ?_
  rintro s H3 ⟨hp3, vs, ha, hvs⟩
  have hp03 := hp2.trans hp3
  have hbx3 := hp3.get (b := H.length) (x := fbx p e b c) (by simp)
  have hsl3 : Row H3 (.slice (some ⟨H.length + 1, 0, none⟩) 1 1) [w] := Row.of (e := 26) (op := none) (r := false) (hp3.get (b := H.length + 1) (by simp)) rfl (Nat.le_refl _)
  have hvl : vs.length = rows.length := by simpa using hvs.1
  obtain ⟨u, H4, e4, ha4, hp4, _⟩ := ha.appR (by_ := 24) hp3.len (hsl3.x (by simp)) (by simpa using hw.one) (by simp; omega) (by simp; omega)
  have hp24 := hp4 hp3
  have hp04 := hp2.trans hp24
  have hbx4 := hp24.get (b := H.length) (x := fbx p e b c) (by simp)
  have hrow4 : RowR H4 u (evr cd (rows ++ [xs])) := ⟨vs ++ [w], ha4.x, by simpa using (hvs.pre hp24).snoc (hw.pre hp04)⟩
  have hl4 : ∀ x ∈ rows ++ [xs], x.length = n := fun x h => (List.mem_append.1 h).elim (hl x) (fun h => by rw [List.mem_singleton.1 h]; exact hx)
  simp (disch := omega) only [zA, zB, zC, zD, zF, zG, zH, ↓reduceIte, hbx3, e4, hbx4]
  refine FZ.mono (of_c F hrow4 hl4 (by simp; omega) hn hn0) ?_
  rintro m H5 ⟨hp5, mb, rfl, hmb, hm⟩
  have hp05 := hp04.trans hp5
  have hb5 := hp05.get hb
  have hbx5 := (hp24.trans hp5).get (b := H.length) (x := fbx p e b c) (by simp)
  have wl := hw.len
  simp only [List.length_map, hx] at wl
  rcases hm with ⟨h0, hm⟩ | ⟨hM0, sb, bs, hm, hnew⟩
  · simp at h0
  have hbn : b ∉ mb :: sb :: bs := fun hx => by have := hnew b hx; have := get_lt hb; have := hp04.len; omega
  simp (disch := omega) only [zA, zB, zC, zD, zF, zG, zH, ↓reduceIte, wl, hbx5]
  refine FZ.mono (preduce_c F hb5 hbn hm (by simp; omega) hn (Nat.le_refl n) (by simp)) ?_
  rintro piv H6 ⟨bs', M', P, hm6, hr6, hl6, hs6, ha6, hf6, hsub6, hlen6⟩
  have hp46 : Pre H4 H6 := fun x hx => by
    have hxn : x ∉ mb :: sb :: bs := fun hx2 => by have := hnew x hx2; omega
    rw [hf6 x (by have := hp5.len; omega) hxn, hp5 x hx]
  have hbx6 := (hp24.trans hp46).get (b := H.length) (x := fbx p e b c) (by simp)
  have hpl : xpure .lenS [piv] = some (nv P.length) := by have := ha6.row.len; simpa using this
  have hp06 := hp04.trans hp46
  simp (disch := omega) only [zA, zB, zC, zD, zF, zG, zH, ↓reduceIte, hbx6, hpl]
  refine FZ.use (rank_p F (hp06.get hb) (hv.pre hp06) hl (by omega) hn hn0) ?_
  have hPl : P.length = (lreduce (rows ++ [xs])).length := by rw [← reduced_eq hl4 hr6 hs6, List.length_take, Nat.min_eq_left hr6.len]
  rw [hPl]
  simp (disch := omega) only [zA, zB, zC, zD, zF, zG, zH, ↓reduceIte]
  exact hp06
end
end Go.Sim

namespace Go.Sim
section
variable {α : Type} [Fl α] [DecidableEq α]
open Fl
def dotn : Nat → Vc α → Vc α → α
  | 0, _, _ => zero
  | k + 1, u, w => add (dotn k u w) (mul (u k) (w k))
theorem ldotk_dotn (xs ys : List α) : ∀ k, ldotk xs ys k = dotn k (toV xs) (toV ys)
  | 0 => rfl
  | k + 1 => by rw [ldotk, dotn, ldotk_dotn xs ys k]; rfl
theorem dotn_cong {u w u' w' : Vc α} : ∀ k, (∀ j, j < k → mul (u j) (w j) = mul (u' j) (w' j)) → dotn k u w = dotn k u' w'
  | 0, _ => rfl
  | k + 1, h => by rw [dotn, dotn, dotn_cong k (fun j hj => h j (by omega)), h k (by omega)]
theorem dotn_comm (u w : Vc α) (k : Nat) : dotn k u w = dotn k w u := dotn_cong k fun _ _ => mul_comm _ _
theorem dotn_va (u u' w : Vc α) : ∀ k, dotn k (va u u') w = add (dotn k u w) (dotn k u' w)
  | 0 => (add_zero _).symm
  | k + 1 => by
    rw [dotn, dotn, dotn, dotn_va u u' w k]
    show add _ (mul (add (u k) (u' k)) (w k)) = _
    rw [Fl.add_mul, Fl.add_swap]
theorem dotn_vs (a : α) (u w : Vc α) : ∀ k, dotn k (vs a u) w = mul a (dotn k u w)
  | 0 => (Fl.mul_zero _).symm
  | k + 1 => by
    rw [dotn, dotn, dotn_vs a u w k]
    show add _ (mul (mul a (u k)) (w k)) = _
    rw [mul_assoc, mul_add]
theorem dotn_vz (w : Vc α) : ∀ k, dotn k vz w = zero
  | 0 => rfl
  | k + 1 => by
    rw [dotn, dotn_vz w k]
    show add zero (mul zero (w k)) = zero
    rw [Fl.zero_mul, add_zero]
theorem dotn_var (w u u' : Vc α) (k : Nat) : dotn k w (va u u') = add (dotn k w u) (dotn k w u') := by rw [dotn_comm, dotn_va, dotn_comm u, dotn_comm u']
theorem dotn_vsr (a : α) (w u : Vc α) (k : Nat) : dotn k w (vs a u) = mul a (dotn k w u) := by rw [dotn_comm, dotn_vs, dotn_comm u]
theorem dotn_vzr (w : Vc α) (k : Nat) : dotn k w vz = zero := by rw [dotn_comm, dotn_vz]
def vun (p : Nat) : Vc α := fun j => if j = p then Fl.one else zero
theorem dotn_un_ge (w : Vc α) (p : Nat) : ∀ k, k ≤ p → dotn k w (vun p) = zero
  | 0, _ => rfl
  | k + 1, h => by
    rw [dotn, dotn_un_ge w p k (by omega), vun, if_neg (by omega), Fl.mul_zero, add_zero]
theorem dotn_un (w : Vc α) (p : Nat) : ∀ k, p < k → dotn k w (vun p) = w p
  | 0, h => by omega
  | k + 1, h => by
    rw [dotn]
    by_cases hp : k = p
    · subst hp
      rw [dotn_un_ge w k k (Nat.le_refl _), vun, if_pos rfl, mul_one, Fl.zero_add]
    · rw [dotn_un w p k (by omega), vun, if_neg hp, Fl.mul_zero, add_zero]
theorem comb_dot (c : Nat → α) (R : Nat → Vc α) (j : Nat) : ∀ m, comb c R m j = dotn m c (fun i => R i j)
  | 0 => rfl
  | k + 1 => by
    show add (comb c R k j) (mul (c k) (R k j)) = _
    rw [comb_dot c R j k]; rfl
theorem dotn_comb (w : Vc α) (c : Nat → α) (R : Nat → Vc α) (n : Nat) : ∀ m, dotn n w (comb c R m) = dotn m c (fun i => dotn n w (R i))
  | 0 => dotn_vzr w n
  | k + 1 => by rw [comb, dotn_var, dotn_vsr, dotn_comb w c R n k]; rfl
theorem comb_span (c : Nat → α) (R : Nat → Vc α) : ∀ m, Span m R (comb c R m)
  | 0 => .zero
  | k + 1 => .step _ ((comb_span c R k).mono fun i hi => Span.row (by omega)) (by omega)
theorem comb_unit' (R : Nat → Vc α) (c : α) (i : Nat) (m : Nat) (hi : i < m) : comb (fun k => if k = i then c else zero) R m = vs c (R i) :=
  comb_unit R c i _ m hi (if_pos rfl) (fun k _ hk => if_neg hk)
theorem span_comb {m : Nat} {R : Nat → Vc α} {v : Vc α} (h : Span m R v) : ∃ c, v = comb c R m := by
  induction h with
  | zero => exact ⟨fun _ => zero, (comb_zero R _ _ fun _ _ => rfl).symm⟩
  | @step w i c _ hi ih =>
    obtain ⟨d, rfl⟩ := ih
    refine ⟨fun k => add (d k) (if k = i then c else zero), ?_⟩
    rw [comb_add R d (fun k => if k = i then c else zero) _ m (fun _ _ => rfl), comb_unit' R c i m hi]
theorem toV_lcombk {n : Nat} {xss : List (List α)} {cs : List α} (hl : ∀ x ∈ xss, x.length = n) : ∀ k, k ≤ xss.length → toV (lcombk n xss cs k) = comb (toV cs) (rowV xss) k
  | 0, _ => toV_zero n
  | k + 1, hk => by
    have h1 := lcombk_length (cs := cs) hl k (by omega)
    rw [lcombk, toV_lmore (by rw [h1, row_len hl (by omega)]), toV_lcombk hl k (by omega)]
    rfl
theorem lcomb_span {n : Nat} {xss : List (List α)} {cs : List α} (hl : ∀ x ∈ xss, x.length = n) : LSpan xss (toV (lcomb n xss cs)) := by
  rw [lcomb, toV_lcombk hl _ (Nat.le_refl _)]
  exact comb_span _ _ _
theorem sub_eq {a b : α} (h : add a (mul (neg Fl.one) b) = zero) : a = b := by
  have h1 := congrFun (vneg (fun _ : Nat => b)) 0
  have h2 : add b (mul (neg Fl.one) b) = zero := h1
  have h3 : add (mul (neg Fl.one) b) a = add (mul (neg Fl.one) b) b := by rw [add_comm _ a, add_comm _ b, h, h2]
  exact Fl.add_left_cancel h3
def Nul (n : Nat) (S : Vc α → Prop) (u : Vc α) : Prop := (∀ j, n ≤ j → u j = zero) ∧ ∀ w, S w → dotn n w u = zero
theorem Nul.vz {n : Nat} {S : Vc α → Prop} : Nul n S vz := ⟨fun _ _ => rfl, fun w _ => dotn_vzr w n⟩
theorem Nul.va {n : Nat} {S : Vc α → Prop} {u v : Vc α} (hu : Nul n S u) (hv : Nul n S v) : Nul n S (va u v) :=
  ⟨fun j hj => by show add (u j) (v j) = zero; rw [hu.1 j hj, hv.1 j hj, add_zero], fun w hw => by rw [dotn_var, hu.2 w hw, hv.2 w hw, add_zero]⟩
theorem Nul.vs {n : Nat} {S : Vc α → Prop} {u : Vc α} (a : α) (hu : Nul n S u) : Nul n S (vs a u) :=
  ⟨fun j hj => by show mul a (u j) = zero; rw [hu.1 j hj, Fl.mul_zero], fun w hw => by rw [dotn_vsr, hu.2 w hw, Fl.mul_zero]⟩
theorem Nul.cong {n : Nat} {S S' : Vc α → Prop} (h : ∀ w, S w ↔ S' w) (u : Vc α) : Nul n S u ↔ Nul n S' u :=
  ⟨fun hu => ⟨hu.1, fun w hw => hu.2 w ((h w).2 hw)⟩, fun hu => ⟨hu.1, fun w hw => hu.2 w ((h w).1 hw)⟩⟩
theorem Nul.of {n m : Nat} {R : Nat → Vc α} {u : Vc α} (h0 : ∀ j, n ≤ j → u j = zero) (h : ∀ i, i < m → dotn n (R i) u = zero) : Nul n (Span m R) u := by
  refine ⟨h0, fun w hw => ?_⟩
  induction hw with
  | zero => exact dotn_vz u n
  | step c _ hi ih => rw [dotn_va, dotn_vs, ih, h _ hi, Fl.mul_zero, add_zero]
theorem LSpan.len {n : Nat} {L : List (List α)} (hl : ∀ x ∈ L, x.length = n) {u : Vc α} (h : LSpan L u) : ∀ j, n ≤ j → u j = zero := by
  refine h.sub (S := fun u => ∀ j, n ≤ j → u j = zero) (fun _ _ => rfl) (fun u v hu hv j hj => ?_) (fun c u hu j hj => ?_) (fun x hx j hj => toV_out (by rw [hl x hx]; exact hj))
  · show add (u j) (v j) = zero; rw [hu j hj, hv j hj, add_zero]
  · show mul c (u j) = zero; rw [hu j hj, Fl.mul_zero]
def nuV (R : Nat → Vc α) (P : Nat → Nat) (m c : Nat) : Vc α := va (vun c) (comb (fun i => neg (R i c)) (fun i => vun (P i)) m)
section
variable {n m : Nat} {R : Nat → Vc α} {P : Nat → Nat}
theorem Red.inj (h : Red m R P) {i j : Nat} (hi : i < m) (hj : j < m) (he : P i = P j) : i = j := by
  rcases Nat.lt_trichotomy i j with h1 | h1 | h1
  · have := h.inc i j h1 hj; omega
  · exact h1
  · have := h.inc j i h1 hi; omega
theorem Red.delta (h : Red m R P) {i k : Nat} (hi : i < m) (hk : k < m) : R i (P k) = vun i k := by
  unfold vun
  by_cases he : k = i
  · rw [if_pos he, he, h.one i hi]
  · rw [if_neg he]; exact h.alone k i hk hi he
theorem nu_dot (hP : ∀ i, i < m → P i < n) {c : Nat} (hc : c < n) (w : Vc α) : dotn n w (nuV R P m c) = add (w c) (dotn m (fun i => neg (R i c)) (fun i => w (P i))) := by
  rw [nuV, dotn_var, dotn_un w c n hc, dotn_comb]
  congr 1
  exact dotn_cong m fun i hi => by rw [dotn_un w (P i) n (hP i hi)]
theorem nu_free {c d : Nat} (hd : ∀ i, i < m → P i ≠ d) : nuV R P m c d = vun c d := by
  show add (vun c d) (comb _ _ m d) = _
  rw [comb_dot, dotn_cong (u' := vz) (w' := vz) m fun i hi => by rw [vun, if_neg (Ne.symm (hd i hi)), Fl.mul_zero]; exact (Fl.mul_zero _).symm, dotn_vz, add_zero]
theorem nu_span (h : Red m R P) (hP : ∀ i, i < m → P i < n) (hR : ∀ i j, i < m → n ≤ j → R i j = zero) {fr : List Nat} (hn : fr.Nodup) (hf : ∀ c, c ∈ fr ↔ c < n ∧ ∀ i, i < m → P i ≠ c) {N : List (List α)} (hl : N.length = fr.length) (hN : ∀ k, k < fr.length → rowV N k = nuV R P m (fr.getD k 0)) (u : Vc α) :
    LSpan N u ↔ Nul n (Span m R) u := by
  have hfr : ∀ k, k < fr.length → fr.getD k 0 < n ∧ ∀ i, i < m → P i ≠ fr.getD k 0 := fun k hk => (hf _).1 (getD_mem hk)
  have fwd : ∀ u, LSpan N u → Nul n (Span m R) u := by
    intro u hu
    refine hu.sub Nul.vz (fun _ _ => Nul.va) (fun c _ => Nul.vs c) fun x hx => ?_
    obtain ⟨k, hk, rfl⟩ := List.mem_iff_getElem.1 hx
    have hk' : k < fr.length := by omega
    obtain ⟨h1, h2⟩ := hfr k hk'
    rw [← rowV_at hk, hN k hk']
    refine Nul.of (fun j hj => ?_) fun i hi => ?_
    · rw [nu_free (fun i hi => by have := hP i hi; omega), vun, if_neg (by omega)]
    · rw [nu_dot hP h1, dotn_cong (u' := fun i => neg (R i (fr.getD k 0))) (w' := vun i) m (fun l hl => by rw [h.delta hi hl]), dotn_un _ i m hi, add_neg]
  refine ⟨fwd u, fun hu => ?_⟩
  have hs : LSpan N (comb (fun k => u (fr.getD k 0)) (rowV N) N.length) := comb_span _ _ _
  generalize he : comb (fun k => u (fr.getD k 0)) (rowV N) N.length = s at hs
  have hsn := fwd s hs
  have hfree : ∀ k, k < fr.length → s (fr.getD k 0) = u (fr.getD k 0) := by
    intro k hk
    rw [← he, comb_dot, dotn_cong (u' := fun k => u (fr.getD k 0)) (w' := vun k), dotn_un _ k _ (by omega)]
    intro l hl'
    have hl2 : l < fr.length := by omega
    congr 1
    rw [hN l hl2, nu_free (hfr k hk).2]
    unfold vun
    by_cases hlk : l = k
    · rw [if_pos hlk, if_pos (by rw [hlk])]
    · rw [if_neg hlk, if_neg (nodup_getD hn hk hl2 (Ne.symm hlk))]
  have hz : ∀ j, j < n → (∀ i, i < m → P i ≠ j) → s j = u j := by
    intro j hj hp
    obtain ⟨k, hk, rfl⟩ := List.mem_iff_getElem.1 ((hf j).2 ⟨hj, hp⟩)
    have := hfree k hk
    simpa [List.getD_eq_getElem?_getD, List.getElem?_eq_getElem hk] using this
  have hpv : ∀ i, i < m → add (u (P i)) (mul (neg Fl.one) (s (P i))) = zero := by
    intro i hi
    have ht := (hu.va (hsn.vs (neg Fl.one))).2 (R i) (Span.row hi)
    rw [dotn_cong (u' := va u (vs (neg Fl.one) s)) (w' := vun (P i)), dotn_un _ _ n (hP i hi)] at ht
    · exact ht
    intro j hj
    by_cases hjp : ∃ k, k < m ∧ P k = j
    · obtain ⟨k, hk, rfl⟩ := hjp
      rw [h.delta hi hk, mul_comm]
      congr 1
      unfold vun
      by_cases hki : k = i
      · rw [if_pos hki, if_pos (by rw [hki])]
      · rw [if_neg hki, if_neg (fun e => hki (h.inj hk hi e))]
    · have hp : ∀ i, i < m → P i ≠ j := fun k hk hkj => hjp ⟨k, hk, hkj⟩
      have : va u (vs (neg Fl.one) s) j = zero := by
        show add (u j) (mul (neg Fl.one) (s j)) = zero
        rw [hz j hj hp]
        exact congrFun (vneg u) j
      rw [this, Fl.mul_zero, Fl.zero_mul]
  have : u = s := by
    funext j
    by_cases hj : j < n
    · by_cases hjp : ∃ k, k < m ∧ P k = j
      · obtain ⟨k, hk, rfl⟩ := hjp
        exact sub_eq (hpv k hk)
      · exact (hz j hj fun k hk hkj => hjp ⟨k, hk, hkj⟩).symm
    · rw [hu.1 j (by omega), hsn.1 j (by omega)]
  rw [this]
  exact hs
theorem nul_nul (h : Red m R P) (hP : ∀ i, i < m → P i < n) (hR : ∀ i j, i < m → n ≤ j → R i j = zero) (u : Vc α) : Nul n (Nul n (Span m R)) u ↔ Span m R u := by
  constructor
  · intro hu
    have hs : Span m R (comb (fun i => u (P i)) R m) := comb_span _ _ _
    generalize he : comb (fun i => u (P i)) R m = s at hs
    have hsP : ∀ i, i < m → s (P i) = u (P i) := fun i hi => by
      rw [← he, comb_dot, dotn_cong (u' := fun i => u (P i)) (w' := vun i) m, dotn_un _ i m hi]
      intro k hk
      congr 1
      rw [h.delta hk hi]
      unfold vun
      by_cases hki : k = i
      · rw [if_pos hki, if_pos hki.symm]
      · rw [if_neg hki, if_neg (Ne.symm hki)]
    have hs0 : ∀ j, n ≤ j → s j = zero := fun j hj => by
      rw [← he, comb_dot, dotn_cong (u' := vz) (w' := vz) m (fun i hi => by rw [hR i j hi hj, Fl.mul_zero]; exact (Fl.mul_zero _).symm), dotn_vz]
    have hsn : Nul n (Nul n (Span m R)) s := ⟨hs0, fun w hw => by rw [dotn_comm]; exact hw.2 s hs⟩
    have ht := hu.va (hsn.vs (neg Fl.one))
    have : u = s := by
      funext j
      by_cases hj : j < n
      · by_cases hjp : ∃ k, k < m ∧ P k = j
        · obtain ⟨k, hk, rfl⟩ := hjp
          exact (hsP k hk).symm
        · have hp : ∀ i, i < m → P i ≠ j := fun k hk hkj => hjp ⟨k, hk, hkj⟩
          have hnu : Nul n (Span m R) (nuV R P m j) := by
            refine Nul.of (fun l hl => ?_) fun i hi => ?_
            · rw [nu_free (fun i hi => by have := hP i hi; omega), vun, if_neg (by omega)]
            · rw [nu_dot hP hj, dotn_cong (u' := fun i => neg (R i j)) (w' := vun i) m (fun l hl => by rw [h.delta hi hl]), dotn_un _ i m hi, add_neg]
          have h1 := ht.2 _ hnu
          rw [dotn_comm, nu_dot hP hj, dotn_cong (u' := fun i => neg (R i j)) (w' := vz) m, dotn_vzr, add_zero] at h1
          · exact sub_eq h1
          intro i hi
          congr 1
          show add (u (P i)) (mul (neg Fl.one) (s (P i))) = zero
          rw [hsP i hi]
          exact congrFun (vneg u) _
      · rw [hu.1 j (by omega), hs0 j (by omega)]
    rw [this]
    exact hs
  · intro hu
    refine ⟨fun j hj => ?_, fun w hw => by rw [dotn_comm]; exact hw.2 u hu⟩
    obtain ⟨c, rfl⟩ := span_comb hu
    rw [comb_dot, dotn_cong (u' := vz) (w' := vz) m (fun i hi => by rw [hR i j hi hj, Fl.mul_zero]; exact (Fl.mul_zero _).symm), dotn_vz]
end
end
end Go.Sim

namespace Go.Sim
section
variable {α : Type} [Fl α] [DecidableEq α]
open Fl
theorem nodup_sub_len {β : Type} [DecidableEq β] : ∀ (l l' : List β), l.Nodup → (∀ x ∈ l, x ∈ l') → l.length ≤ l'.length
  | [], _, _, _ => Nat.zero_le _
  | x :: l, l', hn, hs => by
    have hn' := List.nodup_cons.1 hn
    have hx : x ∈ l' := hs x (by simp)
    have h := nodup_sub_len l (l'.erase x) hn'.2 (fun y hy => (List.mem_erase_of_ne (fun e => hn'.1 (by rw [← e]; exact hy))).2 (hs y (by simp [hy])))
    have h2 := List.length_erase_of_mem hx
    have h3 : 0 < l'.length := List.length_pos_iff.2 (fun e => by rw [e] at hx; simp at hx)
    simp only [List.length_cons]
    omega
theorem LRed.nodup {n : Nat} {L : List (List α)} (h : LRed n L) : (L.map lpiv).Nodup := by
  rw [List.Nodup, List.pairwise_map]
  exact h.pw.imp fun h => by have := h.1; omega
theorem LRed.first {n : Nat} {L : List (List α)} (h : LRed n L) {v : Vc α} (hv : LSpan L v) {j : Nat} (hj : v j ≠ zero) (h0 : ∀ k, k < j → v k = zero) : ∃ x ∈ L, lpiv x = j := by
  obtain ⟨i, hi, he⟩ := h.red.first hv hj h0
  exact ⟨_, getD_mem hi, he⟩
theorem LRed.mono_len {n : Nat} {L L' : List (List α)} (h : LRed n L) (h' : LRed n L') (hs : ∀ u, LSpan L u → LSpan L' u) : L.length ≤ L'.length := by
  have := nodup_sub_len (L.map lpiv) (L'.map lpiv) h.nodup fun p hp => by
    obtain ⟨x, hx, rfl⟩ := List.mem_map.1 hp
    obtain ⟨y, hy, he⟩ := h'.first (hs _ (LSpan.mem hx)) (j := lpiv x) (by
      show x.getD (lpiv x) zero ≠ zero
      rw [(h.row x hx).2.2]; exact one_ne) (fun k hk => lpiv_zero x k hk)
    exact List.mem_map.2 ⟨y, hy, he⟩
  simpa using this
theorem lclr_span {n : Nat} {B : List (List α)} {v : List α} (hB : LRed n B) (hv : v.length = n) : lpiv (lclr B v) = (lclr B v).length ↔ LSpan B (toV v) := by
  have hl := hB.piv.1
  have hwl := lclr_length hl hv
  obtain ⟨s, hs1, hs2⟩ := lclrk_span hl hv B.length (Nat.le_refl _)
  have hz := lclrk_zero hB hv B.length (Nat.le_refl _)
  change toV (lclr B v) = _ at hs2
  change ∀ i, i < B.length → toV (lclr B v) _ = zero at hz
  constructor
  · intro h0
    have hw0 : toV (lclr B v) = vz := by
      funext j
      by_cases hj : j < (lclr B v).length
      · exact lpiv_zero _ _ (by omega)
      · exact toV_out (by omega)
    have h : va (va (toV v) s) (vs (neg Fl.one) s) = toV v := by rw [va_assoc, vneg, va_zero]
    rw [← h, ← hs2, hw0, zero_va]
    exact Span.smul _ hs1
  · intro hv2
    have hw : LSpan B (toV (lclr B v)) := by rw [hs2]; exact Span.add hv2 hs1
    have hc := hB.red.coord hw
    have h0 : toV (lclr B v) = vz := by
      rw [hc]
      exact comb_zero _ _ _ fun i hi => hz i hi
    have hle := lpiv_le (lclr B v)
    by_cases hlt : lpiv (lclr B v) < (lclr B v).length
    · exact absurd (congrFun h0 _) (lpiv_ne _ hlt)
    · omega
theorem lhas_iff {n : Nat} {rows : List (List α)} {v : List α} (hl : ∀ x ∈ rows, x.length = n) (hv : v.length = n) : lhas rows v = true ↔ LSpan rows (toV v) := by
  obtain ⟨h1, h2, _⟩ := lreduce_red hl
  rw [lhas, decide_eq_true_iff, ← h2, ← lclr_span h1 hv, lclr_length h1.piv.1 hv, hv]
theorem lins_length {p : Nat} {w : List α} : ∀ l : List (List α), (lins p w l).length = l.length + 1
  | [] => rfl
  | x :: l => by
    unfold lins
    split
    · simp
    · simp [lins_length l]
theorem lput_length (B : List (List α)) (v : List α) : (lput B v).length = if lpiv (lclr B v) = (lclr B v).length then B.length else B.length + 1 := by
  unfold lput
  simp only
  split
  · rfl
  · rw [lputF_lins, lins_length]
theorem lreduce_snoc (rows : List (List α)) (v : List α) : lreduce (rows ++ [v]) = lput (lreduce rows) v := by simp [lreduce, List.foldl_append]
theorem has_count {n : Nat} {rows : List (List α)} {v : List α} (hl : ∀ x ∈ rows, x.length = n) (hv : v.length = n) : decide ((lreduce (rows ++ [v])).length = (lreduce rows).length) = lhas rows v := by
  obtain ⟨h1, h2, _⟩ := lreduce_red hl
  rw [lreduce_snoc, lput_length, lhas, hv, lclr_length h1.piv.1 hv]
  split
  · simp [*]
  · simp [*]
theorem lreduce_indep {n : Nat} {rows : List (List α)} (hl : ∀ x ∈ rows, x.length = n) (h : ∀ k, k < rows.length → ¬ LSpan (rows.take k) (toV (rows.getD k []))) : (lreduce rows).length = rows.length := by
  have key : ∀ k, k ≤ rows.length → (lreduce (rows.take k)).length = k := by
    intro k
    induction k with
    | zero => intro _; rfl
    | succ k ih =>
      intro hk
      have hlk : ∀ x ∈ rows.take k, x.length = n := fun x hx => hl x (List.mem_of_mem_take hx)
      have hv := row_len hl (show k < rows.length by omega)
      have he : rows.take (k + 1) = rows.take k ++ [rows.getD k []] := by
        rw [List.take_succ_eq_append_getElem (by omega), getD_at (by omega)]
      have hh := h k (by omega)
      rw [← lhas_iff hlk hv, ← has_count hlk hv, ← he] at hh
      simp only [decide_eq_true_iff] at hh
      rw [he, lreduce_snoc, lput_length] at hh ⊢
      have := ih (by omega)
      split
      · rename_i h1; rw [if_pos h1] at hh; exact absurd rfl hh
      · omega
  have := key rows.length (Nat.le_refl _)
  rwa [List.take_length] at this
def vshift (m : Nat) (w : Vc α) : Vc α := fun j => if j < m then zero else w (j - m)
def vdrop (m : Nat) (v : Vc α) : Vc α := fun j => v (j + m)
theorem vdrop_shift (m : Nat) (w : Vc α) : vdrop m (vshift m w) = w := by
  funext j
  show (if j + m < m then zero else w (j + m - m)) = w j
  rw [if_neg (by omega), Nat.add_sub_cancel]
theorem vshift_drop {m : Nat} {v : Vc α} (h : ∀ j, j < m → v j = zero) : vshift m (vdrop m v) = v := by
  funext j
  unfold vshift vdrop
  split
  · rename_i hj; exact (h j hj).symm
  · congr 1; omega
theorem vshift_va (m : Nat) (u v : Vc α) : vshift m (va u v) = va (vshift m u) (vshift m v) := by
  funext j
  show (if _ then _ else _) = add (if _ then _ else _) (if _ then _ else _)
  split
  · exact (add_zero _).symm
  · rfl
theorem vshift_vs (m : Nat) (c : α) (v : Vc α) : vshift m (vs c v) = vs c (vshift m v) := by
  funext j
  show (if _ then _ else _) = mul c (if _ then _ else _)
  split
  · exact (Fl.mul_zero _).symm
  · rfl
theorem vshift_vz (m : Nat) : vshift m (vz : Vc α) = vz := by
  funext j
  unfold vshift; split <;> rfl
theorem toV_drop (x : List α) (m : Nat) : toV (x.drop m) = vdrop m (toV x) := by
  funext j
  simp only [toV, vdrop, List.getD_eq_getElem?_getD, List.getElem?_drop, Nat.add_comm]
def ltail (m : Nat) (L : List (List α)) : List (List α) := (L.filter fun l => decide (m ≤ lpiv l)).map fun l => l.drop m
theorem lpiv_drop {x : List α} {m : Nat} (h : m ≤ lpiv x) (hx : lpiv x < x.length) : lpiv (x.drop m) = lpiv x - m := by
  refine lpiv_eq (by rw [List.length_drop]; omega) (fun j hj => ?_) ?_
  · have := congrFun (toV_drop x m) j
    refine this.trans (lpiv_zero x (j + m) (by omega))
  · have h1 := congrFun (toV_drop x m) (lpiv x - m)
    intro h2
    have h3 := h1.symm.trans h2
    unfold vdrop at h3
    rw [Nat.sub_add_cancel h] at h3
    exact lpiv_ne x hx h3
theorem ltail_red {m n : Nat} {L : List (List α)} (h : LRed (m + n) L) : LRed n (ltail m L) ∧ ∀ u, LSpan (ltail m L) u ↔ LSpan L (vshift m u) := by
  have mem : ∀ x ∈ L.filter (fun l => decide (m ≤ lpiv l)), x ∈ L ∧ m ≤ lpiv x := fun x hx => by simpa using List.mem_filter.1 hx
  have at_ : ∀ (x : List α) j, m ≤ j → (x.drop m).getD (j - m) zero = x.getD j zero := fun x j hj => by
    have := congrFun (toV_drop x m) (j - m)
    unfold vdrop at this
    rw [Nat.sub_add_cancel hj] at this
    exact this
  refine ⟨⟨fun y hy => ?_, ?_⟩, fun u => ⟨fun hu => ?_, fun hu => ?_⟩⟩
  · obtain ⟨x, hx, rfl⟩ := List.mem_map.1 hy
    obtain ⟨hxL, hp⟩ := mem x hx
    obtain ⟨h1, h2, h3⟩ := h.row x hxL
    rw [lpiv_drop hp (by omega), at_ x _ hp]
    exact ⟨by rw [List.length_drop]; omega, by omega, h3⟩
  · unfold ltail
    rw [List.pairwise_map]
    refine (h.pw.filter _).imp_of_mem fun {a b} ha hb hab => ?_
    obtain ⟨haL, hpa⟩ := mem a ha
    obtain ⟨hbL, hpb⟩ := mem b hb
    have ra := h.row a haL
    have rb := h.row b hbL
    rw [lpiv_drop hpa (by omega), lpiv_drop hpb (by omega), at_ a _ hpb, at_ b _ hpa]
    exact ⟨by have := hab.1; omega, hab.2⟩
  · refine hu.sub (S := fun u => LSpan L (vshift m u)) ?_ (fun u v hu hv => ?_) (fun c u hu => ?_) (fun y hy => ?_)
    · show LSpan L (vshift m vz); rw [vshift_vz]; exact .zero
    · show LSpan L (vshift m (va u v)); rw [vshift_va]; exact Span.add hu hv
    · show LSpan L (vshift m (vs c u)); rw [vshift_vs]; exact Span.smul _ hu
    · obtain ⟨x, hx, rfl⟩ := List.mem_map.1 hy
      obtain ⟨hxL, hp⟩ := mem x hx
      show LSpan L (vshift m (toV (x.drop m)))
      rw [toV_drop, vshift_drop (v := toV x) (fun j hj => lpiv_zero x j (by omega))]
      exact LSpan.mem hxL
  · have hc := h.red.coord hu
    obtain ⟨c, hcd⟩ : ∃ c : Nat → α, c = fun i => vshift m u (lpiv (L.getD i [])) := ⟨_, rfl⟩
    rw [← hcd] at hc
    have hz : ∀ i, i < L.length → c i = zero ∨ m ≤ lpiv (L.getD i []) := fun i hi => by
      rw [hcd]
      by_cases hlt : lpiv (L.getD i []) < m
      · left; show vshift m u _ = zero; unfold vshift; rw [if_pos hlt]
      · right; omega
    have key : ∀ k, k ≤ L.length → LSpan (ltail m L) (vdrop m (comb c (rowV L) k)) := by
      intro k
      induction k with
      | zero => intro _; exact .zero
      | succ k ih =>
        intro hk
        show LSpan (ltail m L) (va (vdrop m (comb c (rowV L) k)) (vs (c k) (vdrop m (rowV L k))))
        rcases hz k (by omega) with h0 | h0
        · rw [show c k = zero from h0, vs_zero, va_zero]; exact ih (by omega)
        · refine Span.add (ih (by omega)) (Span.smul _ ?_)
          rw [rowV_at (show k < L.length by omega), ← toV_drop]
          rw [getD_at (show k < L.length by omega)] at h0
          exact LSpan.mem (List.mem_map.2 ⟨_, List.mem_filter.2 ⟨List.getElem_mem _, by simpa using h0⟩, rfl⟩)
    have := key L.length (Nat.le_refl _)
    rw [← hc, vdrop_shift] at this
    exact this
theorem laug_row {n : Nat} (rows : List (List α)) {j : Nat} (hj : j < n) (i : Nat) : rowV (laug n rows) j i = if i < rows.length then rowV rows i j else vun j (i - rows.length) := by
  have hl : j < (laug n rows).length := by simpa [laug] using hj
  rw [rowV_at hl]
  have he : (laug n rows)[j] = rows.map (fun r => r.getD j zero) ++ lunit n j := by simp [laug]
  rw [he]
  unfold toV
  rw [List.getD_eq_getElem?_getD]
  split
  · rename_i hi
    rw [List.getElem?_append_left (by simpa using hi)]
    simp [rowV, toV, List.getD_eq_getElem?_getD, List.getElem?_eq_getElem hi]
  · rename_i hi
    rw [List.getElem?_append_right (by simpa using Nat.le_of_not_lt hi), List.length_map, ← List.getD_eq_getElem?_getD, lunit, getD_set (by simpa using hj), vun]
    split
    · rfl
    · simp [List.getD_eq_getElem?_getD, List.getElem?_replicate]
      split <;> rfl
theorem toV_row_out {n : Nat} {L : List (List α)} (hl : ∀ x ∈ L, x.length = n) {i j : Nat} (hi : i < L.length) (hj : n ≤ j) : rowV L i j = zero := by
  rw [rowV_at hi]; exact toV_out (by rw [hl _ (List.getElem_mem hi)]; exact hj)
theorem lkernel_red {n : Nat} {rows : List (List α)} (hl : ∀ x ∈ rows, x.length = n) : LRed n (lkernel n rows) ∧ ∀ u, LSpan (lkernel n rows) u ↔ Nul n (LSpan rows) u := by
  obtain ⟨h1, h2, _⟩ := lreduce_red (laug_len (n := n) (rows := rows) rfl)
  obtain ⟨h3, h4⟩ := ltail_red h1
  refine ⟨h3, fun u => (h4 u).trans ((h2 _).trans ?_)⟩
  have hlen : (laug n rows).length = n := by simp [laug]
  have hdot : ∀ i, i < rows.length → ∀ c : Vc α, dotn n c (fun j => rowV (laug n rows) j i) = dotn n c (rowV rows i) := fun i hi c => dotn_cong n fun j hj => by rw [laug_row rows hj, if_pos hi]
  have htail : ∀ i, ∀ c : Vc α, dotn n c (fun j => rowV (laug n rows) j (i + rows.length)) = if i < n then c i else zero := fun i c => by
    rw [dotn_cong (u' := c) (w' := vun i) n fun j hj => by
      rw [laug_row rows hj, if_neg (by omega), Nat.add_sub_cancel]
      congr 1
      unfold vun
      by_cases h : i = j
      · rw [if_pos h, if_pos h.symm]
      · rw [if_neg h, if_neg (Ne.symm h)]]
    split
    · rename_i h; exact dotn_un c i n h
    · rename_i h; exact dotn_un_ge c i n (by omega)
  constructor
  · intro h
    obtain ⟨c, hc⟩ := span_comb h
    rw [hlen] at hc
    have hu : ∀ i, u i = if i < n then c i else zero := fun i => by
      have h5 := congrFun hc (i + rows.length)
      rw [comb_dot, htail] at h5
      rw [← h5]
      exact (congrFun (vdrop_shift rows.length u) i).symm
    refine Nul.of (fun j hj => by rw [hu j, if_neg (by omega)]) fun i hi => ?_
    have h6 := congrFun hc i
    rw [comb_dot, hdot i hi] at h6
    have h7 : vshift rows.length u i = zero := by unfold vshift; rw [if_pos hi]
    rw [h7, dotn_comm] at h6
    rw [h6]
    exact dotn_cong n fun j hj => by rw [hu j, if_pos hj]
  · intro h
    have : vshift rows.length u = comb u (rowV (laug n rows)) (laug n rows).length := by
      rw [hlen]
      funext i
      rw [comb_dot]
      by_cases hi : i < rows.length
      · rw [hdot i hi, dotn_comm]
        unfold vshift
        rw [if_pos hi]
        exact (h.2 _ (Span.row hi)).symm
      · have hi' : i = (i - rows.length) + rows.length := by omega
        generalize i - rows.length = k at hi'
        subst hi'
        rw [htail]
        unfold vshift
        rw [if_neg hi, Nat.add_sub_cancel]
        split
        · rfl
        · exact h.1 k (by omega)
    rw [this]
    exact comb_span _ _ _
theorem kernel_kernel {n : Nat} {rows : List (List α)} (hl : ∀ x ∈ rows, x.length = n) : lkernel n (lkernel n rows) = lreduce rows := by
  obtain ⟨h1, h2⟩ := lkernel_red hl
  obtain ⟨h3, h4⟩ := lkernel_red h1.piv.1
  obtain ⟨h5, h6, _⟩ := lreduce_red hl
  refine h3.unique h5 fun u => (h4 u).trans ?_
  rw [Nul.cong h2, Nul.cong (S' := Nul n (LSpan (lreduce rows))) (fun w => Nul.cong (fun v => (h6 v).symm) w)]
  exact nul_nul h5.red (fun i hi => (h5.row _ (getD_mem hi)).2.1) (fun i j hi hj => toV_row_out h5.piv.1 hi hj) u
end
end Go.Sim

namespace Go.Sim
section
variable {α : Type} [Fl α] [DecidableEq α]
open Fl
theorem lspan_append {A B : List (List α)} {u : Vc α} : LSpan (A ++ B) u ↔ ∃ v w, LSpan A v ∧ LSpan B w ∧ u = va v w := by
  constructor
  · intro h
    refine h.sub (S := fun u => ∃ v w, LSpan A v ∧ LSpan B w ∧ u = va v w) ⟨vz, vz, .zero, .zero, (va_zero _).symm⟩ (fun u v hu hv => ?_) (fun c u hu => ?_) (fun x hx => ?_)
    · obtain ⟨a, b, h1, h2, rfl⟩ := hu
      obtain ⟨c, d, h3, h4, rfl⟩ := hv
      exact ⟨va a c, va b d, Span.add h1 h3, Span.add h2 h4, funext fun j => Fl.add_swap _ _ _ _⟩
    · obtain ⟨a, b, h1, h2, rfl⟩ := hu
      exact ⟨vs c a, vs c b, Span.smul _ h1, Span.smul _ h2, vs_va _ _ _⟩
    · rcases List.mem_append.1 hx with hx | hx
      · exact ⟨_, vz, LSpan.mem hx, .zero, (va_zero _).symm⟩
      · exact ⟨vz, _, .zero, LSpan.mem hx, (zero_va _).symm⟩
  · rintro ⟨v, w, h1, h2, rfl⟩
    exact Span.add (h1.mono fun x hx => LSpan.mem (by simp [hx])) (h2.mono fun x hx => LSpan.mem (by simp [hx]))
theorem nul_append {n : Nat} {A B : List (List α)} {u : Vc α} : Nul n (LSpan (A ++ B)) u ↔ Nul n (LSpan A) u ∧ Nul n (LSpan B) u := by
  constructor
  · intro h
    exact ⟨⟨h.1, fun w hw => h.2 w (hw.mono fun x hx => LSpan.mem (by simp [hx]))⟩, ⟨h.1, fun w hw => h.2 w (hw.mono fun x hx => LSpan.mem (by simp [hx]))⟩⟩
  · rintro ⟨h1, h2⟩
    refine ⟨h1.1, fun w hw => ?_⟩
    obtain ⟨a, b, ha, hb, rfl⟩ := lspan_append.1 hw
    rw [dotn_va, h1.2 a ha, h2.2 b hb, add_zero]
theorem nul_lkernel {n : Nat} {rows : List (List α)} (hl : ∀ x ∈ rows, x.length = n) (u : Vc α) : Nul n (LSpan (lkernel n rows)) u ↔ LSpan rows u := by
  obtain ⟨h1, h2⟩ := lkernel_red hl
  obtain ⟨h3, h4⟩ := lkernel_red h1.piv.1
  rw [← h4, kernel_kernel hl]
  exact (lreduce_red hl).2.1 u
def ljoin (A B : List (List α)) : List (List α) := lreduce (A ++ B)
def lmeet (n : Nat) (A B : List (List α)) : List (List α) := lkernel n (ljoin (lkernel n A) (lkernel n B))
theorem app_len {n : Nat} {A B : List (List α)} (hA : ∀ x ∈ A, x.length = n) (hB : ∀ x ∈ B, x.length = n) : ∀ x ∈ A ++ B, x.length = n := fun x hx => (List.mem_append.1 hx).elim (hA x) (hB x)
theorem ljoin_red {n : Nat} {A B : List (List α)} (hA : ∀ x ∈ A, x.length = n) (hB : ∀ x ∈ B, x.length = n) : LRed n (ljoin A B) ∧ ∀ u, LSpan (ljoin A B) u ↔ ∃ v w, LSpan A v ∧ LSpan B w ∧ u = va v w := by
  obtain ⟨h1, h2, _⟩ := lreduce_red (app_len hA hB)
  exact ⟨h1, fun u => (h2 u).trans lspan_append⟩
theorem lmeet_red {n : Nat} {A B : List (List α)} (hA : ∀ x ∈ A, x.length = n) (hB : ∀ x ∈ B, x.length = n) : LRed n (lmeet n A B) ∧ ∀ u, LSpan (lmeet n A B) u ↔ LSpan A u ∧ LSpan B u := by
  have k1 := (lkernel_red hA).1.piv.1
  have k2 := (lkernel_red hB).1.piv.1
  obtain ⟨h1, h2, _⟩ := lreduce_red (app_len k1 k2)
  obtain ⟨h3, h4⟩ := lkernel_red h1.piv.1
  refine ⟨h3, fun u => (h4 u).trans ?_⟩
  rw [Nul.cong h2, nul_append, nul_lkernel hA, nul_lkernel hB]
theorem lmeet_comm {n : Nat} {A B : List (List α)} (hA : ∀ x ∈ A, x.length = n) (hB : ∀ x ∈ B, x.length = n) : lmeet n A B = lmeet n B A :=
  (lmeet_red hA hB).1.unique (lmeet_red hB hA).1 fun u => by rw [(lmeet_red hA hB).2, (lmeet_red hB hA).2, and_comm]
theorem ljoin_comm {n : Nat} {A B : List (List α)} (hA : ∀ x ∈ A, x.length = n) (hB : ∀ x ∈ B, x.length = n) : ljoin A B = ljoin B A :=
  (ljoin_red hA hB).1.unique (ljoin_red hB hA).1 fun u => by
    rw [(ljoin_red hA hB).2, (ljoin_red hB hA).2]
    exact ⟨fun ⟨v, w, h1, h2, e⟩ => ⟨w, v, h2, h1, by rw [e, va_comm]⟩, fun ⟨v, w, h1, h2, e⟩ => ⟨w, v, h2, h1, by rw [e, va_comm]⟩⟩
theorem modular {n : Nat} {A B C : List (List α)} (hA : ∀ x ∈ A, x.length = n) (hB : ∀ x ∈ B, x.length = n) (hC : ∀ x ∈ C, x.length = n) (hAC : ∀ u, LSpan A u → LSpan C u) : ljoin A (lmeet n B C) = lmeet n (ljoin A B) C := by
  obtain ⟨m1, m2⟩ := lmeet_red hB hC
  obtain ⟨j1, j2⟩ := ljoin_red hA m1.piv.1
  obtain ⟨i1, i2⟩ := ljoin_red hA hB
  obtain ⟨k1, k2⟩ := lmeet_red i1.piv.1 hC
  refine j1.unique k1 fun u => ?_
  rw [j2, k2, i2]
  constructor
  · rintro ⟨v, w, h1, h2, rfl⟩
    obtain ⟨h3, h4⟩ := (m2 w).1 h2
    exact ⟨⟨v, w, h1, h3, rfl⟩, Span.add (hAC v h1) h4⟩
  · rintro ⟨⟨v, w, h1, h2, rfl⟩, h3⟩
    refine ⟨v, w, h1, (m2 w).2 ⟨h2, ?_⟩, rfl⟩
    have h4 : LSpan C (va (va v w) (vs (neg Fl.one) v)) := Span.add h3 (Span.smul _ (hAC v h1))
    rw [va_comm v w, va_assoc, vneg, va_zero] at h4
    exact h4
def vbes (n : Nat) (x y : Vc α) : Vc α := fun j => if j < n then x j else y (j - n)
theorem vbes_inj {n : Nat} {x y x' y' : Vc α} (h : vbes n x y = vbes n x' y') : (∀ j, j < n → x j = x' j) ∧ y = y' := by
  constructor
  · intro j hj
    have := congrFun h j
    simpa [vbes, hj] using this
  · funext j
    have := congrFun h (j + n)
    simpa [vbes, show ¬ j + n < n by omega] using this
theorem toV_bes {n : Nat} {x y : List α} (hx : x.length = n) : toV (x ++ y) = vbes n (toV x) (toV y) := by
  funext j
  simp only [toV, vbes, List.getD_eq_getElem?_getD]
  split
  · rw [List.getElem?_append_left (by omega)]
  · rw [List.getElem?_append_right (by omega), hx]
theorem lbeside_len {n m : Nat} {A B : List (List α)} (hA : ∀ x ∈ A, x.length = n) (hB : ∀ x ∈ B, x.length = m) : ∀ x ∈ lbeside A B, x.length = n + m := by
  intro x hx
  obtain ⟨k, hk, rfl⟩ := List.mem_iff_getElem.1 hx
  simp only [lbeside, List.length_zipWith] at hk
  simp only [lbeside, List.getElem_zipWith, List.length_append]
  rw [hA _ (List.getElem_mem (by omega)), hB _ (List.getElem_mem (by omega))]
theorem comb_bes {n : Nat} {A B : List (List α)} (hA : ∀ x ∈ A, x.length = n) (hl : A.length = B.length) (c : Nat → α) : ∀ k, k ≤ A.length → comb c (rowV (lbeside A B)) k = vbes n (comb c (rowV A) k) (comb c (rowV B) k)
  | 0, _ => by funext j; simp [comb, vbes, vz]
  | k + 1, hk => by
    rw [comb, comb, comb, comb_bes hA hl c k (by omega)]
    have h1 : rowV (lbeside A B) k = vbes n (rowV A k) (rowV B k) := by
      rw [rowV_at (show k < (lbeside A B).length by simp [lbeside]; omega), rowV_at (show k < A.length by omega), rowV_at (show k < B.length by omega)]
      simp only [lbeside, List.getElem_zipWith]
      exact toV_bes (hA _ (List.getElem_mem _))
    rw [h1]
    funext j
    simp only [vbes, va, vs]
    split <;> rfl
theorem lspan_bes {n : Nat} {A B : List (List α)} (hA : ∀ x ∈ A, x.length = n) (hl : A.length = B.length) {v : Vc α} : LSpan (lbeside A B) v ↔ ∃ c, v = vbes n (comb c (rowV A) A.length) (comb c (rowV B) B.length) := by
  have h0 : (lbeside A B).length = A.length := by simp [lbeside, hl]
  constructor
  · intro h
    obtain ⟨c, rfl⟩ := span_comb h
    exact ⟨c, by rw [h0, comb_bes hA hl c _ (Nat.le_refl _), hl]⟩
  · rintro ⟨c, rfl⟩
    have := comb_span c (rowV (lbeside A B)) (lbeside A B).length
    rw [h0, comb_bes hA hl c _ (Nat.le_refl _)] at this
    rw [← hl]
    exact show Span _ _ _ from h0 ▸ this
theorem vshift_bes {n : Nat} (u : Vc α) : vshift n u = vbes n vz u := rfl
theorem RedTo.red {n : Nat} {M : List (List α)} {P : List Nat} {w : Nat} (h : RedTo n w M P) : Red P.length (rowV M) (fun i => P.getD i 0) :=
  ⟨h.inc, h.one, fun i k hi hk hne => h.alone i k hi (by have := h.len; omega) (Ne.symm hne), h.lead⟩
theorem RedTo.tail {n w : Nat} {M : List (List α)} {P : List Nat} (h : RedTo n w M P) (v : Vc α) : LSpan (M.drop P.length) v ↔ LSpan M v ∧ ∀ j, j < w → v j = Fl.zero := by
  constructor
  · intro hv
    refine ⟨hv.mono fun x hx => LSpan.mem (List.mem_of_mem_drop hx), ?_⟩
    refine hv.sub (S := fun v => ∀ j, j < w → v j = Fl.zero) (fun _ _ => rfl) (fun u v hu hv j hj => ?_) (fun c u hu j hj => ?_) (fun x hx j hj => ?_)
    · show add (u j) (v j) = Fl.zero; rw [hu j hj, hv j hj, add_zero]
    · show mul c (u j) = Fl.zero; rw [hu j hj, Fl.mul_zero]
    · obtain ⟨k, hk, rfl⟩ := List.mem_iff_getElem.1 hx
      rw [List.length_drop] at hk
      have := h.zero (P.length + k) j (by omega) (by omega) hj
      rw [← rowV_at (show k < (M.drop P.length).length by rw [List.length_drop]; omega)]
      unfold rowV
      rw [show (M.drop P.length).getD k [] = M.getD (P.length + k) [] by simp [List.getD_eq_getElem?_getD]]
      exact this
  · rintro ⟨hv, h0⟩
    obtain ⟨c, rfl⟩ := span_comb hv
    have hc : ∀ i, i < P.length → c i = Fl.zero := by
      intro i hi
      have h1 := h0 (P.getD i 0) (h.lt i hi)
      have hlen := h.len
      rw [comb_dot, dotn_cong (u' := c) (w' := vun i) M.length, dotn_un c i _ (by omega)] at h1
      · exact h1
      intro k hk
      congr 1
      unfold vun
      by_cases hki : k = i
      · rw [if_pos hki, hki]; exact h.one i hi
      · rw [if_neg hki]; exact h.alone i k hi hk hki
    have key : ∀ k, k ≤ M.length → LSpan (M.drop P.length) (comb c (rowV M) k) := by
      intro k
      induction k with
      | zero => intro _; exact .zero
      | succ k ih =>
        intro hk
        rw [comb]
        by_cases hkP : k < P.length
        · rw [hc k hkP, vs_zero, va_zero]; exact ih (by omega)
        · refine Span.add (ih (by omega)) (Span.smul _ ?_)
          have : rowV M k = toV ((M.drop P.length).getD (k - P.length) []) := by
            unfold rowV
            rw [show (M.drop P.length).getD (k - P.length) [] = M.getD k [] by simp [List.getD_eq_getElem?_getD, show P.length + (k - P.length) = k by omega]]
          rw [this]
          exact LSpan.at_ (by rw [List.length_drop]; omega)
    exact key _ (Nat.le_refl _)
theorem lspan_drop {n : Nat} {L : List (List α)} (h0 : ∀ x ∈ L, ∀ j, j < n → toV x j = zero) (u : Vc α) : LSpan (L.map fun l => l.drop n) u ↔ LSpan L (vshift n u) := by
  constructor
  · intro hu
    refine hu.sub (S := fun u => LSpan L (vshift n u)) ?_ (fun u v hu hv => ?_) (fun c u hu => ?_) (fun y hy => ?_)
    · show LSpan L (vshift n vz); rw [vshift_vz]; exact .zero
    · show LSpan L (vshift n (va u v)); rw [vshift_va]; exact Span.add hu hv
    · show LSpan L (vshift n (vs c u)); rw [vshift_vs]; exact Span.smul _ hu
    · obtain ⟨x, hx, rfl⟩ := List.mem_map.1 hy
      show LSpan L (vshift n (toV (x.drop n)))
      rw [toV_drop, vshift_drop (h0 x hx)]
      exact LSpan.mem hx
  · intro hu
    have : LSpan (L.map fun l => l.drop n) (vdrop n (vshift n u)) := by
      refine hu.sub (S := fun u => LSpan (L.map fun l => l.drop n) (vdrop n u)) .zero (fun u v hu hv => ?_) (fun c u hu => ?_) (fun x hx => ?_)
      · exact show LSpan _ (va (vdrop n u) (vdrop n v)) from Span.add hu hv
      · exact show LSpan _ (vs c (vdrop n u)) from Span.smul c hu
      show LSpan _ (vdrop n (toV x))
      rw [← toV_drop]
      exact LSpan.mem (List.mem_map.2 ⟨x, hx, rfl⟩)
    rwa [vdrop_shift] at this
theorem zass {n : Nat} {A B M : List (List α)} {P : List Nat} (hA : ∀ x ∈ A, x.length = n) (hB : ∀ x ∈ B, x.length = n) (h : RedTo (n + n) n M P) (hs : ∀ u, LSpan M u ↔ LSpan (lbeside A A ++ lbeside B (List.replicate B.length (List.replicate n zero))) u) :
    lreduce ((M.drop P.length).map fun l => l.drop n) = lmeet n A B := by
  have hl : ∀ x ∈ (M.drop P.length).map (fun l => l.drop n), x.length = n := by
    intro x hx
    obtain ⟨y, hy, rfl⟩ := List.mem_map.1 hx
    rw [List.length_drop, h.width y (List.mem_of_mem_drop hy)]; omega
  obtain ⟨h1, h2, _⟩ := lreduce_red hl
  obtain ⟨h3, h4⟩ := lmeet_red hA hB
  refine h1.unique h3 fun u => ?_
  rw [h2, h4, lspan_drop (fun x hx j hj => ((h.tail _).1 (LSpan.mem hx)).2 j hj), h.tail, hs, lspan_append]
  have hz : ∀ c : Nat → α, comb c (rowV (List.replicate B.length (List.replicate n zero))) (List.replicate B.length (List.replicate n (zero : α))).length = vz := by
    intro c
    funext j
    rw [comb_dot, dotn_cong (u' := vz) (w' := vz), dotn_vz]; rfl
    intro i hi
    rw [rowV_at hi, List.getElem_replicate, toV_zero]
    show mul (c i) zero = mul zero zero
    rw [Fl.mul_zero, Fl.mul_zero]
  constructor
  · rintro ⟨⟨v, w, hv, hw, e⟩, _⟩
    obtain ⟨c, rfl⟩ := (lspan_bes hA rfl).1 hv
    obtain ⟨d, rfl⟩ := (lspan_bes hB (by simp)).1 hw
    rw [hz] at e
    have e2 : vshift n u = vbes n (va (comb c (rowV A) A.length) (comb d (rowV B) B.length)) (comb c (rowV A) A.length) := by
      rw [e]
      funext j
      simp only [vbes, va, vz]
      split
      · rfl
      · exact add_zero _
    rw [vshift_bes] at e2
    obtain ⟨e3, e4⟩ := vbes_inj e2
    have hua : LSpan A u := by rw [e4]; exact comb_span _ _ _
    refine ⟨hua, ?_⟩
    have : u = vs (neg Fl.one) (comb d (rowV B) B.length) := by
      funext j
      by_cases hj : j < n
      · have h5 := e3 j hj
        refine sub_eq ?_
        show add (u j) (mul (neg Fl.one) (mul (neg Fl.one) _)) = zero
        have h6 : mul (neg Fl.one) (mul (neg Fl.one) (comb d (rowV B) B.length j)) = comb d (rowV B) B.length j := by
          have h7 := congrFun (vneg (vs (neg Fl.one) (comb d (rowV B) B.length))) j
          have h8 := congrFun (vneg (comb d (rowV B) B.length)) j
          have h9 : add (mul (neg Fl.one) (comb d (rowV B) B.length j)) (mul (neg Fl.one) (mul (neg Fl.one) (comb d (rowV B) B.length j))) = add (mul (neg Fl.one) (comb d (rowV B) B.length j)) (comb d (rowV B) B.length j) := by
            rw [show add (mul (neg Fl.one) (comb d (rowV B) B.length j)) (comb d (rowV B) B.length j) = add (comb d (rowV B) B.length j) (mul (neg Fl.one) (comb d (rowV B) B.length j)) from add_comm _ _]
            exact h7.trans h8.symm
          exact Fl.add_left_cancel h9
        rw [h6, e4]
        exact h5.symm
      · rw [hua.len hA j (by omega)]
        show zero = mul _ (comb d (rowV B) B.length j)
        rw [LSpan.len hB (comb_span d (rowV B) B.length) j (by omega), Fl.mul_zero]
    rw [this]
    exact Span.smul _ (comb_span _ _ _)
  · rintro ⟨ha, hb⟩
    obtain ⟨c, hc⟩ := span_comb ha
    obtain ⟨d, hd⟩ := span_comb (Span.smul (neg Fl.one) hb)
    refine ⟨⟨_, _, (lspan_bes hA rfl).2 ⟨c, rfl⟩, (lspan_bes hB (by simp)).2 ⟨d, rfl⟩, ?_⟩, fun j hj => by simp [vshift, hj]⟩
    rw [hz, ← hc, ← hd]
    funext j
    simp only [vbes, va, vz, vshift]
    split
    · exact (congrFun (vneg u) j).symm
    · exact (add_zero _).symm
end
end Go.Sim

namespace Go.Sim
section
variable {α : Type} [Fl α] [DecidableEq α]
open Fl
theorem LRed.indep {n : Nat} {L : List (List α)} (h : LRed n L) {k : Nat} (hk : k < L.length) : ¬ LSpan (L.take k) (toV (L.getD k [])) := by
  intro hs
  have h1 : toV (L.getD k []) (lpiv (L.getD k [])) = zero := by
    refine hs.sub (S := fun u => u (lpiv (L.getD k [])) = zero) rfl (fun u v hu hv => ?_) (fun c u hu => ?_) (fun x hx => ?_)
    · show add (u _) (v _) = zero; rw [hu, hv, add_zero]
    · show mul c (u _) = zero; rw [hu, Fl.mul_zero]
    · obtain ⟨i, hi, rfl⟩ := List.mem_iff_getElem.1 hx
      rw [List.length_take] at hi
      rw [List.getElem_take, ← rowV_at (show i < L.length by omega)]
      exact h.red.alone k i hk (by omega) (by omega)
  have h2 : toV (L.getD k []) (lpiv (L.getD k [])) = Fl.one := h.red.one k hk
  exact one_ne (h2.symm.trans h1)
theorem dep_len {n : Nat} {A : List (List α)} (hl : ∀ x ∈ A, x.length = n) {c : Nat → α} (h0 : comb c (rowV A) A.length = vz) {j : Nat} (hj : j < A.length) (hc : c j ≠ zero) : (lreduce A).length < A.length := by
  have hE : ∀ x ∈ A.eraseIdx j, x.length = n := fun x hx => hl x (List.mem_of_mem_eraseIdx hx)
  obtain ⟨h1, h2, _⟩ := lreduce_red hl
  obtain ⟨h3, h4, h5⟩ := lreduce_red hE
  have hmem : ∀ k, k < A.length → k ≠ j → LSpan (A.eraseIdx j) (rowV A k) := by
    intro k hk hkj
    rw [rowV_at hk]
    refine LSpan.mem ?_
    rw [List.mem_iff_getElem]
    by_cases hlt : k < j
    · exact ⟨k, by rw [List.length_eraseIdx_of_lt hj]; omega, by rw [List.getElem_eraseIdx, dif_pos hlt]⟩
    · refine ⟨k - 1, by rw [List.length_eraseIdx_of_lt hj]; omega, ?_⟩
      rw [List.getElem_eraseIdx, dif_neg (by omega)]
      congr 1; omega
  have key : ∀ k, k ≤ A.length → ∃ s, LSpan (A.eraseIdx j) s ∧ comb c (rowV A) k = va s (if j < k then vs (c j) (rowV A j) else vz) := by
    intro k
    induction k with
    | zero => intro _; exact ⟨vz, .zero, (va_zero _).symm⟩
    | succ k ih =>
      intro hk
      obtain ⟨s, hs, he⟩ := ih (by omega)
      rw [comb, he]
      by_cases hkj : k = j
      · subst hkj
        rw [if_neg (by omega), if_pos (by omega), va_zero]
        exact ⟨s, hs, rfl⟩
      · refine ⟨va s (vs (c k) (rowV A k)), Span.add hs (Span.smul _ (hmem k (by omega) hkj)), ?_⟩
        have : (j < k + 1) = (j < k) := by apply propext; omega
        simp only [this]
        rw [va_assoc, va_assoc, va_comm (vs (c k) (rowV A k))]
  obtain ⟨s, hs, he⟩ := key A.length (Nat.le_refl _)
  rw [h0, if_pos hj] at he
  have hjs : LSpan (A.eraseIdx j) (rowV A j) := by
    have h6 : vs (c j) (rowV A j) = vs (neg Fl.one) s := by
      have : va (vs (neg Fl.one) s) (va s (vs (c j) (rowV A j))) = va (vs (neg Fl.one) s) vz := by rw [← he]
      rw [← va_assoc, va_comm (vs (neg Fl.one) s) s, vneg, zero_va, va_zero] at this
      exact this
    have h7 : LSpan (A.eraseIdx j) (vs (inv (c j)) (vs (c j) (rowV A j))) := by rw [h6]; exact Span.smul _ (Span.smul _ hs)
    rw [vs_vs, mul_comm, mul_inv _ hc, vs_one] at h7
    exact h7
  have := h1.mono_len h3 fun u hu => (h4 u).2 (((h2 u).1 hu).mono fun x hx => by
    obtain ⟨k, hk, rfl⟩ := List.mem_iff_getElem.1 hx
    rw [← rowV_at hk]
    by_cases hkj : k = j
    · rw [hkj]; exact hjs
    · exact hmem k hk hkj)
  rw [List.length_eraseIdx_of_lt hj] at h5
  omega
theorem dep_of_len {n : Nat} {A : List (List α)} (hl : ∀ x ∈ A, x.length = n) (h : (lreduce A).length ≠ A.length) : ∃ (k : Nat) (c : Nat → α), k < A.length ∧ comb c (rowV A) A.length = vz ∧ c k = neg Fl.one := by
  apply Classical.byContradiction
  intro hn
  refine h (lreduce_indep hl fun k hk hs => hn ?_)
  obtain ⟨c, hc⟩ := span_comb hs
  have hlen : (A.take k).length = k := by rw [List.length_take]; omega
  refine ⟨k, fun i => if i < k then c i else if i = k then neg Fl.one else zero, hk, ?_, by simp⟩
  have e1 : ∀ m, m ≤ k → comb (fun i => if i < k then c i else if i = k then neg Fl.one else zero) (rowV A) m = comb c (rowV (A.take k)) m := by
    intro m
    induction m with
    | zero => intro _; rfl
    | succ m ih =>
      intro hm
      rw [comb, comb, ih (by omega)]
      have h1 : rowV (A.take k) m = rowV A m := by
        unfold rowV
        rw [show (A.take k).getD m [] = A.getD m [] by simp only [List.getD_eq_getElem?_getD, List.getElem?_take_of_lt (show m < k by omega)]]
      rw [h1]
      simp [show m < k by omega]
  have e2 : ∀ m, k < m → m ≤ A.length → comb (fun i => if i < k then c i else if i = k then neg Fl.one else zero) (rowV A) m = vz := by
    intro m
    induction m with
    | zero => intro h; omega
    | succ m ih =>
      intro hm hm2
      rw [comb]
      by_cases hmk : m = k
      · subst hmk
        rw [e1 m (Nat.le_refl _)]
        rw [hlen] at hc
        rw [← hc]
        simp only [if_neg (Nat.lt_irrefl _), if_true]
        exact vneg _
      · rw [ih (by omega) (by omega)]
        simp only [if_neg (show ¬ m < k by omega), if_neg hmk]
        rw [vs_zero, va_zero]
  exact e2 _ hk (Nat.le_refl _)
theorem comb_apply {A : List (List α)} {n : Nat} {c : Nat → α} {x : Vc α} (h0 : comb c (rowV A) A.length = vz) : dotn A.length c (fun i => dotn n (rowV A i) x) = zero := by
  have h1 := dotn_comb x c (rowV A) n A.length
  rw [h0, dotn_vzr] at h1
  rw [h1]
  exact dotn_cong _ fun i _ => by rw [dotn_comm]
def lcol (bs : List α) : List (List α) := bs.map fun b => [b]
def lfill (n : Nat) (L : List (List α)) (x : List α) : List α := L.foldl (fun x y => x.set (lpiv y) (y.getD n zero)) x
def lsolve (n : Nat) (rows : List (List α)) (bs : List α) : Option (List α) :=
  if (lreduce (lbeside rows (lcol bs))).any (fun y => decide (lpiv y = n)) then none else some (lfill n (lreduce (lbeside rows (lcol bs))) (List.replicate n zero))
theorem lfill_length (n : Nat) : ∀ (L : List (List α)) (x : List α), (lfill n L x).length = x.length
  | [], x => rfl
  | y :: L, x => by rw [lfill, List.foldl_cons]; exact (lfill_length n L _).trans (by simp)
theorem lfill_off (n : Nat) {j : Nat} : ∀ (L : List (List α)) (x : List α), (∀ y ∈ L, lpiv y ≠ j) → (lfill n L x).getD j zero = x.getD j zero
  | [], x, _ => rfl
  | y :: L, x, h => by
    rw [lfill, List.foldl_cons]
    refine (lfill_off n L _ (fun z hz => h z (by simp [hz]))).trans ?_
    simp only [List.getD_eq_getElem?_getD, List.getElem?_set_ne (h y (by simp))]
theorem lfill_at (n : Nat) : ∀ (L : List (List α)) (x : List α), (L.map lpiv).Nodup → (∀ y ∈ L, lpiv y < x.length) → ∀ y ∈ L, (lfill n L x).getD (lpiv y) zero = y.getD n zero
  | [], x, _, _, y, hy => by simp at hy
  | z :: L, x, hn, hx, y, hy => by
    have hn' := List.nodup_cons.1 (show (lpiv z :: L.map lpiv).Nodup from hn)
    rw [lfill, List.foldl_cons]
    by_cases hm : y ∈ L
    · exact lfill_at n L _ hn'.2 (fun w hw => by rw [List.length_set]; exact hx w (by simp [hw])) y hm
    · have : y = z := by rcases List.mem_cons.1 hy with h | h; exact h; exact absurd h hm
      subst this
      refine (lfill_off n L _ (fun w hw e => hn'.1 (by rw [← e]; exact List.mem_map.2 ⟨w, hw, rfl⟩))).trans ?_
      simp [List.getD_eq_getElem?_getD, List.getElem?_set_self (hx y (by simp))]
theorem lcol_len (bs : List α) : ∀ x ∈ lcol bs, x.length = 1 := by
  intro x hx
  obtain ⟨b, _, rfl⟩ := List.mem_map.1 hx
  rfl
theorem lcol_at {bs : List α} {k : Nat} (hk : k < bs.length) : rowV (lcol bs) k 0 = toV bs k := by
  rw [rowV_at (by simpa [lcol] using hk)]
  simp [lcol, toV, List.getD_eq_getElem?_getD, List.getElem?_eq_getElem hk]
section
variable {n : Nat} {rows : List (List α)} {bs : List α}
theorem lsolve_none (hl : ∀ x ∈ rows, x.length = n) (hb : rows.length = bs.length) (h : lsolve n rows bs = none) : ∃ c : Nat → α, comb c (rowV rows) rows.length = vz ∧ dotn rows.length c (toV bs) = Fl.one := by
  obtain ⟨h1, h2, _⟩ := lreduce_red (lbeside_len hl (lcol_len bs))
  unfold lsolve at h
  split at h
  · rename_i ha
    rw [List.any_eq_true] at ha
    obtain ⟨y, hy, hp⟩ := ha
    have hp := of_decide_eq_true hp
    have hs := (h2 _).1 (LSpan.mem hy)
    obtain ⟨c, hc⟩ := (lspan_bes hl (by simpa [lcol] using hb)).1 hs
    have hy0 : ∀ j, j < n → toV y j = zero := fun j hj => lpiv_zero y j (by omega)
    have hyn : toV y n = Fl.one := by have := (h1.row y hy).2.2; rw [hp] at this; exact this
    refine ⟨c, funext fun j => ?_, ?_⟩
    · by_cases hj : j < n
      · have := congrFun hc j
        rw [hy0 j hj] at this
        show comb c (rowV rows) rows.length j = zero
        simpa [vbes, hj] using this.symm
      · exact LSpan.len hl (comb_span c (rowV rows) rows.length) j (by omega)
    · have := congrFun hc n
      rw [hyn] at this
      simp only [vbes, Nat.lt_irrefl, if_false, Nat.sub_self, comb_dot] at this
      rw [this, show (lcol bs).length = rows.length by simp [lcol, hb]]
      exact dotn_cong _ fun i hi => by rw [lcol_at (by omega)]
  · cases h
theorem lsolve_sol (hl : ∀ x ∈ rows, x.length = n) (hb : rows.length = bs.length) {x : Vc α} (hx : ∀ i, i < rows.length → dotn n (rowV rows i) x = toV bs i) : lsolve n rows bs ≠ none := by
  intro h
  obtain ⟨c, h1, h2⟩ := lsolve_none hl hb h
  have h3 := comb_apply (n := n) (x := x) h1
  rw [dotn_cong (u' := c) (w' := toV bs) _ (fun i hi => by rw [hx i hi]), h2] at h3
  exact one_ne h3
theorem lsolve_some (hl : ∀ x ∈ rows, x.length = n) (hb : rows.length = bs.length) {x : List α} (h : lsolve n rows bs = some x) :
    x.length = n ∧ (∀ i, i < rows.length → dotn n (rowV rows i) (toV x) = toV bs i) ∧ ∀ j, x.getD j zero = zero ∨ ∃ y ∈ lreduce rows, lpiv y = j := by
  obtain ⟨h1, h2, _⟩ := lreduce_red (lbeside_len hl (lcol_len bs))
  unfold lsolve at h
  split at h
  · cases h
  · rename_i ha
    have hp : ∀ y ∈ lreduce (lbeside rows (lcol bs)), lpiv y < n := fun y hy => by
      have h3 := (h1.row y hy).2.1
      have h4 : lpiv y ≠ n := fun e => ha (List.any_eq_true.2 ⟨y, hy, by simpa using e⟩)
      omega
    have hx := Option.some.inj h
    generalize hL : lreduce (lbeside rows (lcol bs)) = L at *
    have hxl : x.length = n := by rw [← hx, lfill_length]; simp
    have hat : ∀ y ∈ L, x.getD (lpiv y) zero = y.getD n zero := fun y hy => by
      rw [← hx]; exact lfill_at n L _ h1.nodup (fun z hz => by simpa using hp z hz) y hy
    have hoff : ∀ j, (∀ y ∈ L, lpiv y ≠ j) → x.getD j zero = zero := fun j hj => by
      rw [← hx, lfill_off n L _ hj]
      simp only [List.getD_eq_getElem?_getD, List.getElem?_replicate]
      split <;> rfl
    have hrow : ∀ y ∈ L, dotn n (toV y) (toV x) = toV y n := by
      intro y hy
      obtain ⟨i, hi, rfl⟩ := List.mem_iff_getElem.1 hy
      rw [dotn_comm, dotn_cong (u' := toV x) (w' := vun (lpiv L[i])) n, dotn_un _ _ n (hp _ hy)]
      · exact hat _ hy
      intro j hj
      by_cases hjp : ∃ k, k < L.length ∧ lpiv (L.getD k []) = j
      · obtain ⟨k, hk, rfl⟩ := hjp
        congr 1
        rw [← rowV_at hi, h1.red.delta hi hk, ← getD_at hi]
        unfold vun
        by_cases hki : k = i
        · rw [if_pos hki, if_pos (by rw [hki])]
        · rw [if_neg hki, if_neg (fun e => hki (h1.red.inj hk hi e))]
      · have : toV x j = zero := hoff j fun z hz e => by
          obtain ⟨k, hk, rfl⟩ := List.mem_iff_getElem.1 hz
          exact hjp ⟨k, hk, by rw [getD_at hk]; exact e⟩
        rw [this, Fl.zero_mul, Fl.zero_mul]
    have hspan : ∀ v, LSpan L v → dotn n v (toV x) = v n := by
      intro v hv
      refine hv.sub (S := fun v => dotn n v (toV x) = v n) (dotn_vz _ _) (fun u v hu hv => ?_) (fun c u hu => ?_) hrow
      · show _ = add (u n) (v n); rw [dotn_va, hu, hv]
      · show _ = mul c (u n); rw [dotn_vs, hu]
    refine ⟨hxl, fun i hi => ?_, fun j => ?_⟩
    · have hi' : i < (lbeside rows (lcol bs)).length := by simp [lbeside, lcol]; omega
      have h5 := hspan _ ((h2 _).2 (LSpan.mem (List.getElem_mem hi')))
      have h6 : toV (lbeside rows (lcol bs))[i] = vbes n (rowV rows i) (rowV (lcol bs) i) := by
        rw [rowV_at hi, rowV_at (show i < (lcol bs).length by simp [lcol]; omega)]
        simp only [lbeside, List.getElem_zipWith]
        exact toV_bes (hl _ (List.getElem_mem _))
      rw [h6] at h5
      simp only [vbes, Nat.lt_irrefl, if_false, Nat.sub_self] at h5
      rw [lcol_at (by omega)] at h5
      rw [← h5]
      exact dotn_cong n fun j hj => by show mul _ _ = mul (if j < n then _ else _) _; rw [if_pos hj]
    · by_cases hj : x.getD j zero = zero
      · exact .inl hj
      · right
        have : ∃ y ∈ L, lpiv y = j := Classical.byContradiction fun hn => hj (hoff j fun y hy e => hn ⟨y, hy, e⟩)
        obtain ⟨y, hy, rfl⟩ := this
        obtain ⟨c, hc⟩ := (lspan_bes hl (by simpa [lcol] using hb)).1 ((h2 _).1 (LSpan.mem hy))
        obtain ⟨g1, g2, _⟩ := lreduce_red hl
        have hpy := hp y hy
        have hcj : ∀ j, j < n → comb c (rowV rows) rows.length j = y.getD j zero := fun j hj => by
          have := congrFun hc j
          simp only [vbes, hj, if_true] at this
          exact this.symm
        refine g1.first ((g2 _).2 (comb_span c (rowV rows) rows.length)) ?_ (fun k hk => ?_)
        · rw [hcj _ hpy, (h1.row y hy).2.2]; exact one_ne
        · rw [hcj _ (by omega)]; exact lpiv_zero y k hk
end
end
end Go.Sim

namespace Go.Sim
section
variable {α : Type} [Fl α] [DecidableEq α]
open Fl
theorem filter_split {β : Type} (p : β → Bool) : ∀ l : List β, l.length = (l.filter p).length + (l.filter fun x => !p x).length
  | [] => rfl
  | x :: l => by
    have := filter_split p l
    cases h : p x <;> simp [List.filter_cons, h] <;> omega
def frees (n : Nat) (P : List Nat) : List Nat := (List.range n).filter fun c => decide (c ∉ P)
def lnullk (n : Nat) (M : List (List α)) (P : List Nat) (c : Nat) : Nat → List α
  | 0 => lunit n c
  | k + 1 => (lnullk n M P c k).set (P.getD k 0) (neg (ent M k c))
def lnulls (n : Nat) (M : List (List α)) (P : List Nat) : List (List α) := (frees n P).map fun c => lnullk n M P c P.length
theorem lnullk_length (n : Nat) (M : List (List α)) (P : List Nat) (c : Nat) : ∀ k, (lnullk n M P c k).length = n
  | 0 => by simp [lnullk, lunit]
  | k + 1 => by simp [lnullk, lnullk_length n M P c k]
theorem lnulls_len (n : Nat) (M : List (List α)) (P : List Nat) : ∀ x ∈ lnulls n M P, x.length = n := by
  intro x hx
  obtain ⟨c, _, rfl⟩ := List.mem_map.1 hx
  exact lnullk_length _ _ _ _ _
theorem toV_set {xs : List α} {p : Nat} {a : α} (hp : p < xs.length) : toV (xs.set p a) = fun j => if j = p then a else toV xs j := by
  funext j
  exact getD_set hp
theorem toV_unit {n c : Nat} (hc : c < n) : toV (lunit (α := α) n c) = vun c := by
  unfold lunit
  rw [toV_set (by simpa using hc), toV_zero]
  rfl
theorem mem_getD {P : List Nat} {c : Nat} : c ∈ P ↔ ∃ i, i < P.length ∧ P.getD i 0 = c := by
  rw [List.mem_iff_getElem]
  exact ⟨fun ⟨i, hi, h⟩ => ⟨i, hi, by rw [List.getD_eq_getElem?_getD, List.getElem?_eq_getElem hi]; exact h⟩, fun ⟨i, hi, h⟩ => ⟨i, hi, by rw [List.getD_eq_getElem?_getD, List.getElem?_eq_getElem hi] at h; exact h⟩⟩
section
variable {n : Nat} {M : List (List α)} {P : List Nat}
theorem lnullk_toV (h : RedTo n n M P) {c : Nat} (hc : c < n) (hcP : c ∉ P) : ∀ k, k ≤ P.length → toV (lnullk n M P c k) = nuV (rowV M) (fun i => P.getD i 0) k c
  | 0, _ => by rw [lnullk, toV_unit hc, nuV, comb, va_zero]
  | k + 1, hk => by
    have hp := h.lt k (by omega)
    rw [lnullk, toV_set (by rw [lnullk_length]; exact hp), lnullk_toV h hc hcP k (by omega)]
    funext j
    show _ = add (vun c j) (add (comb _ _ k j) (mul (neg (rowV M k c)) (vun (P.getD k 0) j)))
    rw [← add_assoc]
    by_cases hj : j = P.getD k 0
    · subst hj
      have h0 : nuV (rowV M) (fun i => P.getD i 0) k c (P.getD k 0) = vun c (P.getD k 0) := nu_free fun i hi => by
        have := h.inc i k hi (by omega); show P.getD i 0 ≠ P.getD k 0; omega
      have h1 : vun c (P.getD k 0) = (zero : α) := if_neg fun e => hcP (mem_getD.2 ⟨k, by omega, e⟩)
      have h2 : add (vun c (P.getD k 0)) (comb (fun i => neg (rowV M i c)) (fun i => vun (P.getD i 0)) k (P.getD k 0)) = (zero : α) := by rw [← h1]; exact h0
      rw [h2, if_pos rfl, vun, if_pos rfl, mul_one, Fl.zero_add]
      rfl
    · rw [if_neg hj, show vun (P.getD k 0) j = (zero : α) from if_neg hj, Fl.mul_zero, add_zero]
      rfl
theorem frees_mem {c : Nat} : c ∈ frees n P ↔ c < n ∧ c ∉ P := by simp [frees]
theorem frees_nodup : (frees n P).Nodup := List.Pairwise.filter _ List.nodup_range
theorem lnulls_span (h : RedTo n n M P) (u : Vc α) : LSpan (lnulls n M P) u ↔ Nul n (LSpan M) u := by
  obtain ⟨_, hd⟩ := h.done
  have hlen := h.len
  have hM : ∀ u, Span P.length (rowV M) u ↔ LSpan M u := fun u => by
    rw [← hd u]
    have hl : (M.take P.length).length = P.length := by rw [List.length_take]; omega
    have e : ∀ i, i < P.length → rowV (M.take P.length) i = rowV M i := fun i hi => by
      unfold rowV
      rw [show (M.take P.length).getD i [] = M.getD i [] by simp only [List.getD_eq_getElem?_getD, List.getElem?_take_of_lt hi]]
    unfold LSpan
    rw [hl]
    exact ⟨Span.mono fun i hi => by rw [← e i hi]; exact Span.row hi, Span.mono fun i hi => by rw [e i hi]; exact Span.row hi⟩
  rw [Nul.cong (fun w => (hM w).symm)]
  have hfree : ∀ c, c ∈ frees n P ↔ c < n ∧ ∀ i, i < P.length → P.getD i 0 ≠ c := fun c => by
    rw [frees_mem, mem_getD]
    exact ⟨fun ⟨a, b⟩ => ⟨a, fun i hi e => b ⟨i, hi, e⟩⟩, fun ⟨a, b⟩ => ⟨a, fun ⟨i, hi, e⟩ => b i hi e⟩⟩
  refine nu_span h.red h.lt (fun i j hi hj => ?_) frees_nodup hfree (by simp [lnulls]) (fun k hk => ?_) u
  · exact toV_row_out h.width (by omega) hj
  · have h1 : (frees n P).getD k 0 ∈ frees n P := getD_mem hk
    obtain ⟨h2, h3⟩ := frees_mem.1 h1
    rw [← lnullk_toV h h2 h3 _ (Nat.le_refl _)]
    unfold rowV lnulls
    congr 1
    simp [List.getD_eq_getElem?_getD, List.getElem?_eq_getElem hk]
theorem lnulls_kernel (h : RedTo n n M P) {rows : List (List α)} (hl : ∀ x ∈ rows, x.length = n) (hs : ∀ u, LSpan M u ↔ LSpan rows u) : lreduce (lnulls n M P) = lkernel n rows := by
  obtain ⟨h1, h2, _⟩ := lreduce_red (lnulls_len n M P)
  obtain ⟨h3, h4⟩ := lkernel_red hl
  refine h1.unique h3 fun u => ?_
  rw [h2, lnulls_span h, h4, Nul.cong hs]
theorem frees_length (h : RedTo n n M P) : (frees n P).length + P.length = n := by
  have hN : P.Nodup := by
    rw [List.Nodup, List.pairwise_iff_getElem]
    intro i j hi hj hij
    have := h.inc i j hij hj
    simp only [List.getD_eq_getElem?_getD, List.getElem?_eq_getElem hi, List.getElem?_eq_getElem hj, Option.getD_some] at this
    omega
  have h1 := filter_split (fun c => decide (c ∉ P)) (List.range n)
  have h2 : ((List.range n).filter (fun c => !decide (c ∉ P))).length = P.length := by
    refine Nat.le_antisymm (nodup_sub_len _ _ (List.Pairwise.filter _ List.nodup_range) fun x hx => ?_) (nodup_sub_len _ _ hN fun x hx => ?_)
    · simpa using (List.mem_filter.1 hx).2
    · refine List.mem_filter.2 ⟨?_, by simpa using hx⟩
      obtain ⟨i, hi, rfl⟩ := mem_getD.1 hx
      exact List.mem_range.2 (h.lt i hi)
  rw [List.length_range, h2] at h1
  exact h1.symm
theorem lnulls_rank (h : RedTo n n M P) : (lreduce (lnulls n M P)).length = (frees n P).length := by
  have hlen : (lnulls n M P).length = (frees n P).length := by simp [lnulls]
  rw [lreduce_indep (lnulls_len n M P), hlen]
  intro k hk hs
  rw [hlen] at hk
  have row : ∀ i, i < (frees n P).length → rowV (lnulls n M P) i ((frees n P).getD k 0) = vun ((frees n P).getD i 0) ((frees n P).getD k 0) := by
    intro i hi
    obtain ⟨h2, h3⟩ := frees_mem.1 (getD_mem (l := frees n P) (d := 0) hi)
    obtain ⟨_, h5⟩ := frees_mem.1 (getD_mem (l := frees n P) (d := 0) hk)
    have e : rowV (lnulls n M P) i = toV (lnullk n M P ((frees n P).getD i 0) P.length) := by
      unfold rowV lnulls
      congr 1
      simp [List.getD_eq_getElem?_getD, List.getElem?_eq_getElem hi]
    rw [e, lnullk_toV h h2 h3 _ (Nat.le_refl _)]
    exact nu_free fun l hl e => h5 (mem_getD.2 ⟨l, hl, e⟩)
  have h1 : toV ((lnulls n M P).getD k []) ((frees n P).getD k 0) = zero := by
    refine hs.sub (S := fun u => u ((frees n P).getD k 0) = zero) rfl (fun u v hu hv => ?_) (fun c u hu => ?_) (fun x hx => ?_)
    · show add (u _) (v _) = zero; rw [hu, hv, add_zero]
    · show mul c (u _) = zero; rw [hu, Fl.mul_zero]
    · obtain ⟨i, hi, rfl⟩ := List.mem_iff_getElem.1 hx
      rw [List.length_take] at hi
      rw [List.getElem_take, ← rowV_at (show i < (lnulls n M P).length by omega), row i (by omega)]
      exact if_neg fun e => nodup_getD (frees_nodup (n := n) (P := P)) hk (show i < _ by omega) (by omega) e
  have h2 := row k hk
  rw [vun, if_pos rfl] at h2
  exact one_ne (h2.symm.trans h1)
end
theorem redto_exists {n : Nat} {A : List (List α)} (hl : ∀ x ∈ A, x.length = n) : ∀ w, w ≤ n → ∃ M P, RedTo n w M P ∧ M.length = A.length ∧ ∀ u, LSpan M u ↔ LSpan A u := by
  intro w
  induction w with
  | zero => intro _; exact ⟨A, [], RedTo.start hl, rfl, fun _ => Iff.rfl⟩
  | succ w ih =>
    intro hw
    obtain ⟨M, P, h, h2, h3⟩ := ih (by omega)
    by_cases hp : ∃ i, P.length ≤ i ∧ i < M.length ∧ ent M i w ≠ zero
    · obtain ⟨i, h4, h5, h6⟩ := hp
      exact ⟨_, _, h.step h5 h4 h6, by rw [lelim_length, lfront_length, h2], fun u => (step_span h.width (by omega) h5 h6 u).trans (h3 u)⟩
    · exact ⟨M, P, h.skip fun k hk hk2 => Classical.byContradiction fun hne => hp ⟨k, hk, hk2, hne⟩, h2, h3⟩
theorem rank_null {n : Nat} {A : List (List α)} (hl : ∀ x ∈ A, x.length = n) : (lkernel n A).length + (lreduce A).length = n := by
  obtain ⟨M, P, h, _, h3⟩ := redto_exists hl n (Nat.le_refl n)
  rw [← lnulls_kernel h hl h3, lnulls_rank h, ← reduced_eq hl h h3, List.length_take, Nat.min_eq_left h.len]
  exact frees_length h
def vcut (w : Nat) (v : Vc α) : Vc α := fun j => if j < w then v j else zero
theorem toV_take (x : List α) (w : Nat) : toV (x.take w) = vcut w (toV x) := by
  funext j
  simp only [toV, vcut, List.getD_eq_getElem?_getD]
  split
  · rename_i h; rw [List.getElem?_take_of_lt h]
  · rename_i h; rw [List.getElem?_eq_none (by rw [List.length_take]; omega)]; rfl
theorem vcut_va (w : Nat) (u v : Vc α) : vcut w (va u v) = va (vcut w u) (vcut w v) := by
  funext j
  simp only [vcut, va]
  split
  · rfl
  · exact (add_zero _).symm
theorem vcut_vs (w : Nat) (c : α) (v : Vc α) : vcut w (vs c v) = vs c (vcut w v) := by
  funext j
  simp only [vcut, vs]
  split
  · rfl
  · exact (Fl.mul_zero _).symm
theorem lspan_cut {L : List (List α)} {w : Nat} {u : Vc α} : LSpan (L.map fun x => x.take w) u ↔ ∃ v, LSpan L v ∧ u = vcut w v := by
  constructor
  · intro h
    refine h.sub (S := fun u => ∃ v, LSpan L v ∧ u = vcut w v) ⟨vz, .zero, by funext j; simp [vcut, vz]⟩ (fun u v hu hv => ?_) (fun c u hu => ?_) (fun x hx => ?_)
    · obtain ⟨a, h1, rfl⟩ := hu
      obtain ⟨b, h2, rfl⟩ := hv
      exact ⟨va a b, Span.add h1 h2, (vcut_va _ _ _).symm⟩
    · obtain ⟨a, h1, rfl⟩ := hu
      exact ⟨vs c a, Span.smul _ h1, (vcut_vs _ _ _).symm⟩
    · obtain ⟨y, hy, rfl⟩ := List.mem_map.1 hx
      exact ⟨_, LSpan.mem hy, toV_take _ _⟩
  · rintro ⟨v, hv, rfl⟩
    refine hv.sub (S := fun v => LSpan (L.map fun x => x.take w) (vcut w v)) ?_ (fun u v hu hv => ?_) (fun c u hu => ?_) (fun x hx => ?_)
    · rw [show vcut w vz = (vz : Vc α) by funext j; simp [vcut, vz]]; exact .zero
    · rw [vcut_va]; exact Span.add hu hv
    · rw [vcut_vs]; exact Span.smul _ hu
    · rw [← toV_take]; exact LSpan.mem (List.mem_map.2 ⟨x, hx, rfl⟩)
theorem take_len {n w : Nat} {L : List (List α)} (hl : ∀ x ∈ L, x.length = n) (hw : w ≤ n) : ∀ x ∈ L.map (fun x => x.take w), x.length = w := by
  intro x hx
  obtain ⟨y, hy, rfl⟩ := List.mem_map.1 hx
  rw [List.length_take, hl y hy]; omega
theorem RedTo.front {n w : Nat} {M A : List (List α)} {P : List Nat} (h : RedTo n w M P) (hw : w ≤ n) (hA : ∀ x ∈ A, x.length = n) (hs : ∀ u, LSpan M u ↔ LSpan A u) : P.length = (lreduce (A.map fun x => x.take w)).length := by
  have he : ∀ k j, k < M.length → j < w → ent (M.map fun x => x.take w) k j = ent M k j := by
    intro k j hk hj
    have h1 : (M.map fun x => x.take w).getD k [] = (M.getD k []).take w := by simp [List.getD_eq_getElem?_getD, List.getElem?_eq_getElem hk]
    have h2 := congrFun (toV_take (M.getD k []) w) j
    unfold ent
    rw [h1]
    simp only [vcut, hj, if_true] at h2
    exact h2
  have hl := h.len
  have hr : RedTo w w (M.map fun x => x.take w) P :=
    ⟨by rw [List.length_map]; exact hl, take_len h.width hw, h.lt, h.inc, fun i hi => by rw [he i _ (by omega) (h.lt i hi)]; exact h.one i hi,
      fun i k hi hk hne => by rw [List.length_map] at hk; rw [he k _ hk (h.lt i hi)]; exact h.alone i k hi hk hne,
      fun i j hi hj => by rw [he i _ (by omega) (by have := h.lt i hi; omega)]; exact h.lead i j hi hj,
      fun k j hk hm hj => by rw [List.length_map] at hm; rw [he k j hm hj]; exact h.zero k j hk hm hj⟩
  have h2 : ∀ u, LSpan (M.map fun x => x.take w) u ↔ LSpan (A.map fun x => x.take w) u := fun u => by
    rw [lspan_cut, lspan_cut]
    exact ⟨fun ⟨v, h1, e⟩ => ⟨v, (hs v).1 h1, e⟩, fun ⟨v, h1, e⟩ => ⟨v, (hs v).2 h1, e⟩⟩
  rw [← reduced_eq (take_len hA hw) hr h2, List.length_take, List.length_map, Nat.min_eq_left hl]
theorem bes_take {n : Nat} {A B : List (List α)} (hA : ∀ x ∈ A, x.length = n) (hl : A.length = B.length) : (lbeside A B).map (fun x => x.take n) = A := by
  refine List.ext_getElem (by simp [lbeside, hl]) fun k h1 h2 => ?_
  simp only [lbeside, List.getElem_map, List.getElem_zipWith]
  rw [List.take_append_of_le_length (by rw [hA _ (List.getElem_mem h2)]; exact Nat.le_refl _), List.take_of_length_le (by rw [hA _ (List.getElem_mem h2)]; exact Nat.le_refl _)]
end
end Go.Sim

namespace Go.Sim
section
variable {α : Type} [Fl α] [DecidableEq α]
open Fl
theorem RedTo.piv_eq {n w : Nat} {M : List (List α)} {P : List Nat} (h : RedTo n w M P) (hw : w ≤ n) {k : Nat} (hk : k < P.length) : lpiv (M.getD k []) = P.getD k 0 := by
  have hkm : k < M.length := by have := h.len; omega
  refine lpiv_eq (by rw [row_len h.width hkm]; have := h.lt k hk; omega) (fun j hj => h.lead k j hk hj) ?_
  rw [show (M.getD k []).getD (P.getD k 0) Fl.zero = Fl.one from h.one k hk]
  exact one_ne
theorem psolve_eq {n : Nat} {rows M : List (List α)} {bs : List α} {P : List Nat} (hl : ∀ x ∈ rows, x.length = n) (h : RedTo (n + 1) n M P) (hs : ∀ u, LSpan M u ↔ LSpan (lbeside rows (lcol bs)) u) :
    (if (M.drop P.length).any (fun y => decide (y.getD n zero ≠ zero)) then none else some (lfill n (M.take P.length) (List.replicate n zero))) = lsolve n rows bs := by
  have hA := lbeside_len hl (lcol_len bs)
  obtain ⟨h1, h2, _⟩ := lreduce_red hA
  unfold lsolve
  by_cases hb : (M.drop P.length).any (fun y => decide (y.getD n zero ≠ zero)) = true
  · rw [if_pos hb]
    rw [List.any_eq_true] at hb
    obtain ⟨y, hy, hne⟩ := hb
    have hne := of_decide_eq_true hne
    obtain ⟨hy1, hy2⟩ := (h.tail _).1 (LSpan.mem hy)
    obtain ⟨z, hz, hp⟩ := h1.first ((h2 _).2 ((hs _).1 hy1)) (j := n) hne (fun k hk => hy2 k hk)
    rw [if_pos (List.any_eq_true.2 ⟨z, hz, by simpa using hp⟩)]
  · rw [if_neg hb]
    have hz : ∀ k, P.length ≤ k → k < M.length → ent M k n = zero := by
      intro k hk hkm
      apply Classical.byContradiction
      intro hne
      refine hb (List.any_eq_true.2 ⟨M.getD k [], ?_, decide_eq_true (show (M.getD k []).getD n zero ≠ zero from hne)⟩)
      rw [show M.getD k [] = (M.drop P.length).getD (k - P.length) [] by simp [List.getD_eq_getElem?_getD, show P.length + (k - P.length) = k by omega]]
      exact getD_mem (by rw [List.length_drop]; omega)
    have hr := h.skip hz
    have he := reduced_eq hA hr hs
    have hp : ∀ y ∈ M.take P.length, lpiv y < n := by
      intro y hy
      obtain ⟨i, hi, rfl⟩ := List.mem_iff_getElem.1 hy
      rw [List.length_take] at hi
      have := h.piv_eq (by omega) (show i < P.length by omega)
      rw [getD_at (show i < M.length by omega)] at this
      rw [List.getElem_take, this]
      exact h.lt i (by omega)
    rw [← he, if_neg]
    intro ha
    obtain ⟨y, hy, e⟩ := List.any_eq_true.1 ha
    have := hp y hy
    have := of_decide_eq_true e
    omega
def linvk (A : List (List α)) : Nat → Option (List (List α))
  | 0 => some []
  | k + 1 => match linvk A k with
    | none => none
    | some cols => match lsolve A.length A (lunit A.length k) with
      | none => none
      | some x => some (cols ++ [x])
def linv (A : List (List α)) : Option (List (List α)) := (linvk A A.length).map (lturn A.length)
theorem linvk_none {A : List (List α)} : ∀ k, linvk A k = none → ∃ j, j < k ∧ lsolve A.length A (lunit A.length j) = none
  | 0, h => by cases h
  | k + 1, h => by
    unfold linvk at h
    split at h
    · rename_i h1
      obtain ⟨j, h2, h3⟩ := linvk_none k h1
      exact ⟨j, by omega, h3⟩
    · split at h
      · rename_i h2; exact ⟨k, by omega, h2⟩
      · cases h
theorem linvk_some {A : List (List α)} : ∀ k cols, linvk A k = some cols → cols.length = k ∧ ∀ j, j < k → lsolve A.length A (lunit A.length j) = some (cols.getD j [])
  | 0, cols, h => by cases h; exact ⟨rfl, fun j hj => by omega⟩
  | k + 1, cols, h => by
    unfold linvk at h
    split at h
    · cases h
    · rename_i c h1
      split at h
      · cases h
      · rename_i x h2
        cases h
        obtain ⟨h3, h4⟩ := linvk_some k c h1
        refine ⟨by simp [h3], fun j hj => ?_⟩
        rw [getD_snoc]
        split
        · exact h4 j (by omega)
        · rw [if_pos (by omega), show j = k by omega]; exact h2
def IsInv (A X : List (List α)) : Prop := X.length = A.length ∧ (∀ x ∈ X, x.length = A.length) ∧ ∀ i j, i < A.length → j < A.length → dotn A.length (rowV A i) (fun k => ent X k j) = vun j i
section
variable {A X Y : List (List α)}
theorem lturn_ent {n : Nat} {L : List (List α)} {i j : Nat} (hi : i < n) (hj : j < L.length) : ent (lturn n L) i j = ent L j i := by
  unfold ent lturn
  simp [List.getD_eq_getElem?_getD, List.getElem?_eq_getElem hj, hi]
theorem lturn_len (n : Nat) (L : List (List α)) : (lturn n L).length = n ∧ ∀ x ∈ lturn n L, x.length = L.length := by
  refine ⟨by simp [lturn], fun x hx => ?_⟩
  obtain ⟨j, _, rfl⟩ := List.mem_map.1 hx
  simp
theorem unit_at {n i j : Nat} (hj : j < n) : toV (lunit (α := α) n j) i = vun j i := by rw [toV_unit hj]
theorem linv_some (hl : ∀ x ∈ A, x.length = A.length) (h : linv A = some X) : IsInv A X := by
  unfold linv at h
  rw [Option.map_eq_some_iff] at h
  obtain ⟨cols, hc, rfl⟩ := h
  obtain ⟨h1, h2⟩ := linvk_some _ _ hc
  obtain ⟨h3, h4⟩ := lturn_len A.length cols
  refine ⟨h3, fun x hx => by rw [h4 x hx, h1], fun i j hi hj => ?_⟩
  obtain ⟨h5, h6, _⟩ := lsolve_some hl (by simp [lunit]) (h2 j hj)
  rw [dotn_cong (u' := rowV A i) (w' := toV (cols.getD j [])) _ (fun k hk => by rw [lturn_ent hk (by omega)]; rfl), h6 i hi, unit_at hj]
theorem linv_of (hl : ∀ x ∈ A, x.length = A.length) (h : IsInv A X) : linv A ≠ none := by
  intro hn
  unfold linv at hn
  rw [Option.map_eq_none_iff] at hn
  obtain ⟨j, hj, h1⟩ := linvk_none _ hn
  exact lsolve_sol hl (by simp [lunit]) (x := fun k => ent X k j) (fun i hi => by rw [h.2.2 i j hi hj, unit_at hj]) h1
theorem inv_unique {n : Nat} {a x y : Nat → Nat → α} (h1 : ∀ i j, i < n → j < n → dotn n (a i) (fun k => x k j) = vun j i) (h2 : ∀ i j, i < n → j < n → dotn n (y i) (fun k => a k j) = vun j i) : ∀ i j, i < n → j < n → x i j = y i j := by
  intro i j hi hj
  have e1 : dotn n (y i) (fun k => dotn n (a k) (fun l => x l j)) = y i j := by
    rw [dotn_cong (u' := y i) (w' := vun j) n (fun k hk => by rw [h1 k j hk hj])]
    exact dotn_un _ _ _ hj
  have e2 : dotn n (y i) (fun k => dotn n (a k) (fun l => x l j)) = x i j := by
    have h3 := dotn_comb (fun l => x l j) (y i) (fun k => a k) n n
    have h4 : dotn n (fun l => x l j) (comb (y i) (fun k => a k) n) = x i j := by
      rw [dotn_cong (u' := fun l => x l j) (w' := vun i) n]
      · exact dotn_un _ _ _ hi
      intro l hl
      rw [comb_dot, h2 i l hi hl]
      congr 1
      unfold vun
      by_cases h : i = l
      · rw [if_pos h, if_pos h.symm]
      · rw [if_neg h, if_neg (Ne.symm h)]
    rw [← h4, h3]
    exact dotn_cong n fun k hk => by rw [dotn_comm]
  exact e2.symm.trans e1
theorem ent_ext {n : Nat} (hX : X.length = n) (hX2 : ∀ x ∈ X, x.length = n) (hY : Y.length = n) (hY2 : ∀ x ∈ Y, x.length = n) (h : ∀ i j, i < n → j < n → ent X i j = ent Y i j) : X = Y := by
  refine List.ext_getElem (by omega) fun i h1 h2 => ?_
  refine toV_inj (by rw [hX2 _ (List.getElem_mem h1), hY2 _ (List.getElem_mem h2)]) ?_
  funext j
  rw [← rowV_at h1, ← rowV_at h2]
  by_cases hj : j < n
  · exact h i j (by omega) hj
  · rw [toV_row_out hX2 h1 (by omega), toV_row_out hY2 h2 (by omega)]
theorem linv_eq (hl : ∀ x ∈ A, x.length = A.length) (h1 : IsInv A X) (h2 : ∀ i j, i < A.length → j < A.length → dotn A.length (rowV X i) (fun k => ent A k j) = vun j i) : linv A = some X := by
  cases h : linv A with
  | none => exact absurd h (linv_of hl h1)
  | some Y =>
    have h3 := linv_some hl h
    congr 1
    exact ent_ext h3.1 h3.2.1 h1.1 h1.2.1 (inv_unique h3.2.2 h2)
theorem linv_rank (hl : ∀ x ∈ A, x.length = A.length) : linv A ≠ none ↔ (lreduce A).length = A.length := by
  constructor
  · intro h
    apply Classical.byContradiction
    intro hn
    obtain ⟨k, c, hk, h0, hc⟩ := dep_of_len hl hn
    cases hX : linv A with
    | none => exact h hX
    | some X =>
      have hX := linv_some hl hX
      have h3 := comb_apply (n := A.length) (x := fun i => ent X i k) h0
      rw [dotn_cong (u' := c) (w' := vun k) _ (fun i hi => by rw [hX.2.2 i k hi hk]), dotn_un _ _ _ hk, hc] at h3
      have h4 := add_neg (Fl.one : α)
      rw [h3, add_zero] at h4
      exact one_ne h4
  · intro h hn
    unfold linv at hn
    rw [Option.map_eq_none_iff] at hn
    obtain ⟨j, hj, h1⟩ := linvk_none _ hn
    obtain ⟨c, h2, h3⟩ := lsolve_none hl (by simp [lunit]) h1
    rw [dotn_cong (u' := c) (w' := vun j) _ (fun i hi => by rw [unit_at hj]), dotn_un _ _ _ hj] at h3
    have := dep_len hl h2 hj (by rw [h3]; exact one_ne)
    omega
def lunits (n : Nat) : List (List α) := (List.range n).map (lunit n)
theorem lunits_len (n : Nat) : (lunits (α := α) n).length = n ∧ ∀ x ∈ lunits (α := α) n, x.length = n := by
  refine ⟨by simp [lunits], fun x hx => ?_⟩
  obtain ⟨j, _, rfl⟩ := List.mem_map.1 hx
  simp [lunit]
theorem lunits_row {n k : Nat} (hk : k < n) : rowV (lunits (α := α) n) k = vun k := by
  rw [rowV_at (show k < (lunits (α := α) n).length by rw [(lunits_len n).1]; exact hk)]
  simp only [lunits, List.getElem_map, List.getElem_range]
  exact toV_unit hk
theorem comb_units {n : Nat} (c : Nat → α) : comb c (rowV (lunits n)) n = vcut n c := by
  funext j
  rw [comb_dot, dotn_cong (u' := c) (w' := vun j) n (fun i hi => by
    rw [lunits_row hi]
    congr 1
    unfold vun
    by_cases h : j = i
    · rw [if_pos h, if_pos h.symm]
    · rw [if_neg h, if_neg (Ne.symm h)])]
  unfold vcut
  split
  · rename_i h; exact dotn_un _ _ _ h
  · rename_i h; exact dotn_un_ge _ _ _ (by omega)
theorem pinv_eq {M : List (List α)} {P : List Nat} (hl : ∀ x ∈ A, x.length = A.length) (h : RedTo (A.length + A.length) A.length M P) (hm : M.length = A.length) (hs : ∀ u, LSpan M u ↔ LSpan (lbeside A (lunits A.length)) u) :
    (if P.length < A.length then none else some (M.map fun x => x.drop A.length)) = linv A := by
  obtain ⟨hu1, hu2⟩ := lunits_len (α := α) A.length
  have hb := lbeside_len hl hu2
  have hP : P.length = (lreduce A).length := by rw [h.front (by omega) hb hs, bes_take hl hu1.symm]
  split
  · rename_i hlt
    cases hX : linv A with
    | none => rfl
    | some X => have := (linv_rank hl).1 (by rw [hX]; simp); omega
  · rename_i hge
    have hlen := h.len
    have hPn : P.length = A.length := by omega
    have hpi : ∀ i, i < A.length → P.getD i 0 = i := by
      have lo : ∀ i, i < A.length → i ≤ P.getD i 0 := by
        intro i
        induction i with
        | zero => intro _; exact Nat.zero_le _
        | succ i ih =>
          intro hi
          have := ih (by omega)
          have := h.inc i (i + 1) (by omega) (by omega)
          omega
      have hi : ∀ d i, i + d + 1 = A.length → P.getD i 0 ≤ i := by
        intro d
        induction d with
        | zero => intro i hi; have := h.lt i (by omega); omega
        | succ d ih =>
          intro i hi
          have := ih (i + 1) (by omega)
          have := h.inc i (i + 1) (by omega) (by omega)
          omega
      intro i hi'
      have := lo i hi'
      have := hi (A.length - i - 1) i (by omega)
      omega
    have hR : LRed (A.length + A.length) M := by
      refine ⟨fun x hx => ?_, ?_⟩
      · obtain ⟨k, hk, rfl⟩ := List.mem_iff_getElem.1 hx
        have h1 := h.piv_eq (by omega) (show k < P.length by omega)
        rw [getD_at hk] at h1
        rw [h1]
        refine ⟨h.width _ (List.getElem_mem hk), by have := h.lt k (by omega); omega, ?_⟩
        have := h.one k (by omega)
        unfold ent at this
        rwa [getD_at hk] at this
      · refine List.pairwise_iff_getElem.2 fun a b ha hb hab => ?_
        have h1 := h.piv_eq (by omega) (show a < P.length by omega)
        have h2 := h.piv_eq (by omega) (show b < P.length by omega)
        rw [getD_at ha] at h1
        rw [getD_at hb] at h2
        rw [h1, h2]
        have h3 := h.alone b a (by omega) ha (by omega)
        have h4 := h.alone a b (by omega) hb (by omega)
        unfold ent at h3 h4
        rw [getD_at ha] at h3
        rw [getD_at hb] at h4
        exact ⟨h.inc a b hab (by omega), h3, h4⟩
    have hl2 : ∀ x ∈ M.map (fun x => x.drop A.length), x.length = A.length := by
      intro x hx
      obtain ⟨y, hy, rfl⟩ := List.mem_map.1 hx
      rw [List.length_drop, h.width y hy]; omega
    have hent : ∀ i j, i < A.length → ent (M.map fun x => x.drop A.length) i j = ent M i (j + A.length) := by
      intro i j hi
      have h1 : (M.map fun x => x.drop A.length).getD i [] = (M.getD i []).drop A.length := by simp [List.getD_eq_getElem?_getD, List.getElem?_eq_getElem (show i < M.length by omega)]
      have h2 := congrFun (toV_drop (M.getD i []) A.length) j
      unfold ent
      rw [h1]
      exact h2
    have hleft : ∀ i k, i < A.length → k < A.length → ent M i k = vun i k := by
      intro i k hi hk
      have h1 := h.red.delta (i := i) (k := k) (by omega) (by omega)
      rw [hpi k hk] at h1
      exact h1
    refine (linv_eq hl ⟨by simp [hm], hl2, fun i j hi hj => ?_⟩ fun i j hi hj => ?_).symm
    · -- A X = 1: a row beside its unit is a combination of what was left
      have hrow : LSpan M (vbes A.length (rowV A i) (vun i)) := by
        refine (hs _).2 ((lspan_bes hl hu1.symm).2 ⟨fun k => if k = i then Fl.one else zero, ?_⟩)
        rw [comb_unit' _ _ _ _ hi, vs_one, comb_unit' _ _ _ _ (by omega), vs_one, lunits_row hi]
      obtain ⟨c, hc⟩ := span_comb hrow
      rw [hm] at hc
      have hci : ∀ k, k < A.length → c k = rowV A i k := by
        intro k hk
        have h1 := congrFun hc k
        rw [comb_dot, dotn_cong (u' := c) (w' := vun k) _ (fun l hl' => by
          rw [ent_rowV, hleft l k hl' hk]
          congr 1
          unfold vun
          by_cases h : k = l
          · rw [if_pos h, if_pos h.symm]
          · rw [if_neg h, if_neg (Ne.symm h)]), dotn_un _ _ _ hk] at h1
        rw [← h1]
        simp [vbes, hk]
      have h1 := congrFun hc (j + A.length)
      rw [comb_dot] at h1
      rw [dotn_cong (u' := c) (w' := fun k => rowV M k (j + A.length)) _ (fun k hk => by rw [hent k j hk, hci k hk]; rfl), ← h1]
      simp only [vbes, if_neg (show ¬ j + A.length < A.length by omega), Nat.add_sub_cancel]
      unfold vun
      by_cases h : j = i
      · rw [if_pos h, if_pos h.symm]
      · rw [if_neg h, if_neg (Ne.symm h)]
    · have hrow : LSpan M (rowV M i) := Span.row (by omega)
      obtain ⟨c, hc⟩ := (lspan_bes hl hu1.symm).1 ((hs _).1 hrow)
      rw [hu1, comb_units] at hc
      have hci : ∀ k, k < A.length → rowV (M.map fun x => x.drop A.length) i k = c k := by
        intro k hk
        rw [ent_rowV, hent i k hi]
        have h1 := congrFun hc (k + A.length)
        simp only [vbes, if_neg (show ¬ k + A.length < A.length by omega), Nat.add_sub_cancel, vcut, hk, if_true] at h1
        exact h1
      have h1 := congrFun hc j
      simp only [vbes, hj, if_true, comb_dot] at h1
      rw [dotn_cong (u' := c) (w' := fun k => ent A k j) _ (fun k hk => by rw [hci k hk]), show dotn A.length c (fun k => ent A k j) = dotn A.length c (fun k => rowV A k j) from rfl, ← h1, ent_rowV, hleft i j hi hj]
      unfold vun
      by_cases h : j = i
      · rw [if_pos h, if_pos h.symm]
      · rw [if_neg h, if_neg (Ne.symm h)]
end
end
end Go.Sim

namespace Go.Sim
section
variable {α : Type} [Fl α] [DecidableEq α]
open Fl
def lheads (n : Nat) (L : List (List α)) : List (List α) := (L.filter fun l => !decide (n ≤ lpiv l)).map fun l => l.take n
theorem lpiv_take {x : List α} {n : Nat} (h : lpiv x < n) (hx : lpiv x < x.length) : lpiv (x.take n) = lpiv x := by
  have at_ : ∀ j, j < n → (x.take n).getD j zero = x.getD j zero := fun j hj => by
    simp only [List.getD_eq_getElem?_getD, List.getElem?_take_of_lt hj]
  refine lpiv_eq (by rw [List.length_take]; omega) (fun j hj => ?_) ?_
  · rw [at_ j (by omega)]; exact lpiv_zero x j hj
  · rw [at_ _ h]; exact lpiv_ne x hx
theorem lheads_red {n m : Nat} {L : List (List α)} (h : LRed (n + m) L) : LRed n (lheads n L) ∧ ∀ u, LSpan (lheads n L) u ↔ ∃ v, LSpan L v ∧ u = vcut n v := by
  have mem : ∀ x ∈ L.filter (fun l => !decide (n ≤ lpiv l)), x ∈ L ∧ lpiv x < n := fun x hx => by simpa using List.mem_filter.1 hx
  have at_ : ∀ (x : List α) j, j < n → (x.take n).getD j zero = x.getD j zero := fun x j hj => by
    simp only [List.getD_eq_getElem?_getD, List.getElem?_take_of_lt hj]
  refine ⟨⟨fun y hy => ?_, ?_⟩, fun u => ⟨fun hu => ?_, ?_⟩⟩
  · obtain ⟨x, hx, rfl⟩ := List.mem_map.1 hy
    obtain ⟨hxL, hp⟩ := mem x hx
    obtain ⟨h1, h2, h3⟩ := h.row x hxL
    rw [lpiv_take hp (by omega), at_ x _ hp]
    exact ⟨by rw [List.length_take]; omega, hp, h3⟩
  · unfold lheads
    rw [List.pairwise_map]
    refine (h.pw.filter _).imp_of_mem fun {a b} ha hb hab => ?_
    obtain ⟨haL, hpa⟩ := mem a ha
    obtain ⟨hbL, hpb⟩ := mem b hb
    have ra := h.row a haL
    have rb := h.row b hbL
    rw [lpiv_take hpa (by omega), lpiv_take hpb (by omega), at_ a _ hpb, at_ b _ hpa]
    exact hab
  · obtain ⟨v, hv, e⟩ := lspan_cut.1 hu
    exact ⟨v, hv.mono fun x hx => LSpan.mem (mem x hx).1, e⟩
  · rintro ⟨v, hv, rfl⟩
    refine hv.sub (S := fun v => LSpan (lheads n L) (vcut n v)) ?_ (fun u v hu hv => ?_) (fun c u hu => ?_) (fun x hx => ?_)
    · rw [show vcut n vz = (vz : Vc α) by funext j; simp [vcut, vz]]; exact .zero
    · rw [vcut_va]; exact Span.add hu hv
    · rw [vcut_vs]; exact Span.smul _ hu
    · by_cases hp : n ≤ lpiv x
      · rw [show vcut n (toV x) = vz by
          funext j
          unfold vcut
          split
          · exact lpiv_zero x j (by omega)
          · rfl]
        exact .zero
      · rw [← toV_take]
        exact LSpan.mem (List.mem_map.2 ⟨x, List.mem_filter.2 ⟨hx, by simpa using hp⟩, rfl⟩)
theorem heads_tails {n : Nat} (L : List (List α)) : L.length = (lheads n L).length + (ltail n L).length := by
  have := filter_split (fun l : List α => decide (n ≤ lpiv l)) L
  simp only [lheads, ltail, List.length_map]
  omega
def lzeros (m n : Nat) : List (List α) := List.replicate m (List.replicate n zero)
theorem comb_zeros (m n : Nat) (c : Nat → α) (k : Nat) (hk : k ≤ m) : comb c (rowV (lzeros m n)) k = vz := by
  funext j
  rw [comb_dot, dotn_cong (u' := vz) (w' := vz), dotn_vz]; rfl
  intro i hi
  rw [rowV_at (show i < (lzeros (α := α) m n).length by simp [lzeros]; omega)]
  simp only [lzeros, List.getElem_replicate, toV_zero]
  show mul (c i) zero = mul zero zero
  rw [Fl.mul_zero, Fl.mul_zero]
theorem zspan {n : Nat} {A B : List (List α)} (hA : ∀ x ∈ A, x.length = n) (hB : ∀ x ∈ B, x.length = n) {v : Vc α} :
    LSpan (lbeside A A ++ lbeside B (lzeros B.length n)) v ↔ ∃ x y, LSpan A x ∧ LSpan B y ∧ v = va (vbes n x x) (vbes n y vz) := by
  rw [lspan_append]
  constructor
  · rintro ⟨v, w, hv, hw, rfl⟩
    obtain ⟨c, rfl⟩ := (lspan_bes hA rfl).1 hv
    obtain ⟨d, rfl⟩ := (lspan_bes hB (by simp [lzeros])).1 hw
    refine ⟨_, _, comb_span c _ _, comb_span d _ _, ?_⟩
    rw [comb_zeros B.length n d _ (by simp [lzeros])]
  · rintro ⟨x, y, hx, hy, rfl⟩
    obtain ⟨c, rfl⟩ := span_comb hx
    obtain ⟨d, rfl⟩ := span_comb hy
    refine ⟨_, _, (lspan_bes hA rfl).2 ⟨c, rfl⟩, (lspan_bes hB (by simp [lzeros])).2 ⟨d, ?_⟩, rfl⟩
    rw [comb_zeros B.length n d _ (by simp [lzeros])]
theorem lbeside_take {A B : List (List α)} (k : Nat) : (lbeside A B).take k = lbeside (A.take k) (B.take k) := by
  simp only [lbeside, List.take_zipWith]
theorem lbeside_row {n : Nat} {A B : List (List α)} (hA : ∀ x ∈ A, x.length = n) (hl : A.length = B.length) {k : Nat} (hk : k < A.length) : toV ((lbeside A B).getD k []) = vbes n (rowV A k) (rowV B k) := by
  rw [getD_at (show k < (lbeside A B).length by simp [lbeside]; omega), rowV_at hk, rowV_at (show k < B.length by omega)]
  simp only [lbeside, List.getElem_zipWith]
  exact toV_bes (hA _ (List.getElem_mem hk))
theorem vbes_eq {n : Nat} {x y : Vc α} (hx : ∀ j, n ≤ j → x j = zero) (hy : ∀ j, n ≤ j → y j = zero) (h : ∀ j, j < n → x j = y j) : x = y := by
  funext j
  by_cases hj : j < n
  · exact h j hj
  · rw [hx j (by omega), hy j (by omega)]
theorem zindep {n : Nat} {A B : List (List α)} (hA : LRed n A) (hB : LRed n B) : (lreduce (lbeside A A ++ lbeside B (lzeros B.length n))).length = A.length + B.length := by
  have hAl := hA.piv.1
  have hBl := hB.piv.1
  have hz : ∀ x ∈ lzeros (α := α) B.length n, x.length = n := fun x hx => by rw [List.eq_of_mem_replicate hx]; simp
  have e1 : (lbeside A A).length = A.length := by simp [lbeside]
  have e2 : (lbeside B (lzeros B.length n)).length = B.length := by simp [lbeside, lzeros]
  rw [lreduce_indep (app_len (lbeside_len hAl hAl) (lbeside_len hBl hz)), List.length_append, e1, e2]
  intro k hk hs
  rw [List.length_append, e1, e2] at hk
  by_cases hkA : k < A.length
  · rw [List.take_append_of_le_length (by omega), lbeside_take] at hs
    have hrow : (lbeside A A ++ lbeside B (lzeros B.length n)).getD k [] = (lbeside A A).getD k [] := by
      simp only [List.getD_eq_getElem?_getD, List.getElem?_append_left (show k < (lbeside A A).length by omega)]
    rw [hrow, lbeside_row hAl rfl hkA] at hs
    obtain ⟨c, hc⟩ := (lspan_bes (fun x hx => hAl x (List.mem_of_mem_take hx)) rfl).1 hs
    obtain ⟨_, h2⟩ := vbes_inj hc
    exact hA.indep hkA (by
      rw [show toV (A.getD k []) = rowV A k from rfl, h2]; exact comb_span _ _ _)
  · have hkb : k - A.length < B.length := by omega
    have ht : (lbeside A A ++ lbeside B (lzeros B.length n)).take k = lbeside A A ++ lbeside (B.take (k - A.length)) (lzeros (B.take (k - A.length)).length n) := by
      rw [List.take_append, List.take_of_length_le (by omega), e1, lbeside_take]
      congr 2
      simp [lzeros]
    have hrow : (lbeside A A ++ lbeside B (lzeros B.length n)).getD k [] = (lbeside B (lzeros B.length n)).getD (k - A.length) [] := by
      simp only [List.getD_eq_getElem?_getD, List.getElem?_append_right (show (lbeside A A).length ≤ k by omega), e1]
    rw [ht, hrow, lbeside_row hBl (by simp [lzeros]) hkb, zspan hAl (fun x hx => hBl x (List.mem_of_mem_take hx))] at hs
    obtain ⟨x, y, hx, hy, e⟩ := hs
    have hz0 : rowV (lzeros (α := α) B.length n) (k - A.length) = vz := by
      rw [rowV_at (by simpa [lzeros] using hkb)]
      simp only [lzeros, List.getElem_replicate, toV_zero]
    rw [hz0] at e
    have hx0 : x = vz := by
      funext j
      have := congrFun e (j + n)
      simp only [vbes, va, vz, if_neg (show ¬ j + n < n by omega), Nat.add_sub_cancel, add_zero] at this
      exact this.symm
    refine hB.indep hkb ?_
    have hyr : toV (B.getD (k - A.length) []) = y := by
      refine vbes_eq (n := n) (fun j hj => toV_out (by rw [row_len hBl hkb]; exact hj)) (LSpan.len (fun x hx => hBl x (List.mem_of_mem_take hx)) hy) fun j hj => ?_
      have := congrFun e j
      simp only [vbes, va, hj, if_true] at this
      rw [hx0] at this
      exact this.trans (Fl.zero_add _)
    rw [hyr]
    exact hy
theorem dim_formula {n : Nat} {A B : List (List α)} (hA : ∀ x ∈ A, x.length = n) (hB : ∀ x ∈ B, x.length = n) : (ljoin A B).length + (lmeet n A B).length = (lreduce A).length + (lreduce B).length := by
  obtain ⟨a1, a2, _⟩ := lreduce_red hA
  obtain ⟨b1, b2, _⟩ := lreduce_red hB
  have hz : ∀ x ∈ lzeros (α := α) (lreduce B).length n, x.length = n := fun x hx => by rw [List.eq_of_mem_replicate hx]; simp
  obtain ⟨z1, z2, _⟩ := lreduce_red (app_len (lbeside_len a1.piv.1 a1.piv.1) (lbeside_len b1.piv.1 hz))
  rw [← zindep a1 b1, heads_tails (n := n) (lreduce (lbeside _ _ ++ _))]
  obtain ⟨h1, h2⟩ := lheads_red z1
  obtain ⟨t1, t2⟩ := ltail_red z1
  obtain ⟨j1, j2⟩ := ljoin_red hA hB
  obtain ⟨m1, m2⟩ := lmeet_red hA hB
  congr 2
  · refine j1.unique h1 fun u => ?_
    rw [j2, h2]
    constructor
    · rintro ⟨v, w, hv, hw, rfl⟩
      refine ⟨_, (z2 _).2 ((zspan a1.piv.1 b1.piv.1).2 ⟨v, w, (a2 _).2 hv, (b2 _).2 hw, rfl⟩), ?_⟩
      refine vbes_eq (n := n) (fun j hj => ?_) (fun j hj => by simp only [vcut]; rw [if_neg (by omega)]) fun j hj => ?_
      · show add (v j) (w j) = zero; rw [LSpan.len hA hv j hj, LSpan.len hB hw j hj, add_zero]
      · simp only [vcut, va, vbes, hj, if_true]
    · rintro ⟨v, hv, rfl⟩
      obtain ⟨x, y, hx, hy, rfl⟩ := (zspan a1.piv.1 b1.piv.1).1 ((z2 _).1 hv)
      have hx := (a2 _).1 hx
      have hy := (b2 _).1 hy
      refine ⟨x, y, hx, hy, ?_⟩
      refine vbes_eq (n := n) (fun j hj => by simp only [vcut]; rw [if_neg (by omega)]) (fun j hj => ?_) fun j hj => ?_
      · show add (x j) (y j) = zero; rw [LSpan.len hA hx j hj, LSpan.len hB hy j hj, add_zero]
      · simp only [vcut, va, vbes, hj, if_true]
  · refine m1.unique t1 fun u => ?_
    rw [m2, t2, z2, zspan a1.piv.1 b1.piv.1]
    constructor
    · rintro ⟨ha, hb⟩
      refine ⟨u, vs (neg Fl.one) u, (a2 _).2 ha, (b2 _).2 (Span.smul _ hb), ?_⟩
      rw [vshift_bes]
      funext j
      simp only [vbes, va, vz]
      split
      · exact (congrFun (vneg u) j).symm
      · exact (add_zero _).symm
    · rintro ⟨x, y, hx, hy, e⟩
      have hx := (a2 _).1 hx
      have hy := (b2 _).1 hy
      have hux : u = x := by
        funext j
        have := congrFun e (j + n)
        simp only [vshift, vbes, va, vz, if_neg (show ¬ j + n < n by omega), Nat.add_sub_cancel, add_zero] at this
        exact this
      subst hux
      refine ⟨hx, ?_⟩
      have h0 : va u y = vz := by
        refine vbes_eq (n := n) (fun j hj => ?_) (fun _ _ => rfl) fun j hj => ?_
        · show add (u j) (y j) = zero; rw [LSpan.len hA hx j hj, LSpan.len hB hy j hj, add_zero]
        · have := congrFun e j
          simp only [vshift, vbes, va, hj, if_true] at this
          exact this.symm
      have : u = vs (neg Fl.one) y := by
        have h3 : va (va u y) (vs (neg Fl.one) y) = vs (neg Fl.one) y := by rw [h0, zero_va]
        rw [va_assoc, vneg, va_zero] at h3
        exact h3
      rw [this]
      exact Span.smul _ hy
end
end Go.Sim

namespace Go.Sim
open Go Go.Proofs
theorem joinV1.mid {first : (Value → AH → Prop) → Prop} {r : Value → AH → Prop} (Q : Value → AH → Prop) (h1 : ∀ J : Value → AH → Prop, (∀ x0 H, Q x0 H → J x0 H) → first J) (h2 : ∀ x0 H, Q x0 H → r x0 H) : @joinV1 first ⟨r⟩ :=
  joinV1.intro fun J hJ => h1 J fun x H hq => hJ x H (h2 x H hq)
section
variable {α : Type} [Fl α] [DecidableEq α] {cd : α → Nat} {p e b c q : Nat} {blk : AB} {H : AH}
theorem Mat.lt {n mb sb : Nat} {bs : List Nat} {M : List (List α)} (h : Mat cd p e b c n mb sb bs H M) : ∀ x ∈ mb :: sb :: bs, x < H.length := by
  intro x hx
  obtain ⟨op, ho⟩ := h.spine
  simp only [List.mem_cons] at hx
  rcases hx with rfl | rfl | hx
  · exact get_lt h.var
  · exact get_lt ho
  · obtain ⟨k, hk, rfl⟩ := List.mem_iff_getElem.1 hx
    have := h.row k (by rw [← h.len]; exact hk)
    rw [List.getD_eq_getElem?_getD, List.getElem?_eq_getElem hk] at this
    exact get_lt this
theorem Mat.pre {n mb sb : Nat} {bs : List Nat} {H' : AH} {M : List (List α)} (h : Mat cd p e b c n mb sb bs H M) (hp : Pre H H') : Mat cd p e b c n mb sb bs H' M :=
  h.keep fun x hx => hp x (h.lt x hx)
theorem evs_one (F : FOK α cd p e b c q blk) {n j : Nat} : ((List.replicate n 0).set j 1).map nv = evs cd (lunit (α := α) n j) := by
  simp [evs, lunit, List.map_set, F.zero, F.one]
theorem kernel_p (F : FOK α cd p e b c q blk) {v : Value} {n : Nat} {rows : List (List α)} (hb : H[b]? = some blk) (hv : RowR H v (evr cd rows)) (hl : ∀ x ∈ rows, x.length = n) (hR : rows.length ≤ 400) (hn : n ≤ 400) (hn0 : 0 < n) :
    FN Try.prog 38 [fldv p e b e c, nv n, v] H (fun r H' => Pre H H' ∧ RowR H' r (evr cd (lkernel n rows))) := by
  refine g38_of ?_
  unfold g38
  have hp1 := Pre.new H [fbx p e b c]
  obtain ⟨vs, hvs, hvl, hvr⟩ := hv.open
  simp (disch := omega) only [zA, zB, zC, zD, zF, zG, zH, ↓reduceIte]
  refine FZ.mono (of_c F (hv.pre hp1) hl (by omega) (by omega) hn0) ?_
  rintro m H2 ⟨hp2, mb, rfl, hmb, hm⟩
  have hp02 := hp1.trans hp2
  refine joinV1.mid (fun piv H4 => ∃ M P, RedTo n n M P ∧ (∀ u, LSpan M u ↔ LSpan rows u) ∧ Row H4 piv (P.map nv) ∧ Pre (H ++ [fbx p e b c]) H4 ∧ M.length ≤ 400 ∧ (P = [] ∨ ∃ sb bs, Mat cd p e b c n mb sb bs H4 M)) ?_ ?_
  · intro J hJ
    obtain ⟨vl, _, _, _⟩ := (hvs.pre hp02).allV
    have hb2 := hp02.get hb
    rcases hm with ⟨rfl, hm⟩ | ⟨hM0, sb, bs, hm, hnew⟩
    · simp at hvl
      simp (disch := omega) only [zA, zB, zC, zD, zF, zG, zH, ↓reduceIte, vl, hvl]
      exact hJ _ _ ⟨[], [], ⟨by simp, by simp, by simp, by simp, by simp, by simp, by simp, by simp⟩, fun _ => Iff.rfl, .inl ⟨rfl, none, 0, rfl⟩, hp2, by simp, .inl rfl⟩
    · have hpos := List.length_pos_iff.2 hM0
      have hpos' : 0 < vs.length := by omega
      have hbn : b ∉ mb :: sb :: bs := fun hx => by have := hnew b hx; have := get_lt hb; simp at *; omega
      simp (disch := omega) only [zA, zB, zC, zD, zF, zG, zH, ↓reduceIte, vl, hpos']
      refine FZ.mono (preduce_c F hb2 hbn hm (by omega) (by omega) (Nat.le_refl n) hpos) ?_
      rintro piv H4 ⟨bs', M', P, hm4, hr4, hl4, hs4, ha4, hf4, hsub4, hlen4⟩
      refine hJ _ _ ⟨M', P, hr4, hs4, ha4.row, fun x hx => ?_, by omega, .inr ⟨sb, bs', hm4⟩⟩
      have hxn : x ∉ mb :: sb :: bs := fun hx2 => by have h := hnew x hx2; simp only [List.length_append, List.length_cons, List.length_nil] at h hx; omega
      rw [hf4 x (by have h := hp2.len; simp only [List.length_append, List.length_cons, List.length_nil] at h hx; omega) hxn, hp2 x hx]
  · rintro piv H4 ⟨M, P, hr, hs, hpiv, hp4, hMl, hmat⟩
    have hp04 := hp1.trans hp4
    have hPl := hr.len
    refine loopV2.nat n (fun j l i H' => i = nv j ∧ Pre H4 H' ∧ AccR H4 H' l (evr cd (((List.range j).filter fun c => decide (c ∉ P)).map fun c => lnullk n M P c P.length)) 26) ⟨rfl, Pre.refl _, AccR.nil⟩ ?_ ?_
    · rintro j l i H5 hj ⟨rfl, hp5, ho⟩ J hJ
      have hp45 := hp4.trans hp5
      have hp05 := hp1.trans hp45
      have hrng : (List.range (j + 1)).filter (fun c => decide (c ∉ P)) = (List.range j).filter (fun c => decide (c ∉ P)) ++ (if decide (j ∉ P) = true then [j] else []) := by
        rw [List.range_succ, List.filter_append]
        simp [List.filter_cons]
      simp (disch := omega) only [zA, zB, zC, zD, zF, zG, zH, ↓reduceIte, hj]
      refine FZ.use (contains_c (hpiv.pre hp5) (by omega)) ?_
      by_cases hjP : j ∈ P
      · have hd : decide (j ∈ P) = true := decide_eq_true hjP
        simp (disch := omega) only [zA, zB, zC, zD, zF, zG, zH, ↓reduceIte, hd]
        refine hJ _ _ _ ⟨rfl, hp5, ?_⟩
        rw [hrng, if_neg (by simpa using hjP), List.append_nil]
        exact ho
      · have hd : decide (j ∈ P) = false := decide_eq_false hjP
        have h1 : 8 * n ≤ 281474976710656 := by omega
        obtain ⟨pl, pi_, pd, pd'⟩ := (hpiv.pre hp5).all 0
        simp (disch := (first | omega | (simp only [stLen] <;> omega) | (simp only [all_nv]; done) | rfl)) only [zA, zB, zC, zD, zF, zG, zH, Nat.reduceEqDiff, Nat.reduceLT, Nat.reduceLeDiff, ↓reduceIte, hd, xnew_makeN, h1, hj, pl]
        rw [evs_one F]
        refine loopV1.nat P.length (fun k i H' => i = nv k ∧ H' = H5 ++ [.cells (evs cd (lnullk n M P j k)) 3 none false]) ⟨rfl, rfl⟩ ?_ ?_
        · rintro k i _ hk ⟨rfl, rfl⟩ J2 hJ2
          rcases hmat with rfl | ⟨sb, bs, hmat⟩
          · simp at hk
          have hX := Pre.new H5 [.cells (evs cd (lnullk n M P j k)) 3 none false]
          have hm5 := hmat.pre (hp5.trans hX)
          have hbx5 := (hp45.trans hX).get (b := H.length) (x := fbx p e b c) (by simp)
          obtain ⟨op, ho5⟩ := hm5.spine
          have v5 := hm5.var
          have hbl := hm5.len
          have hkb : k < bs.length := by omega
          have hkm : k < M.length := by omega
          have l1 := ld_sp ho5 hkb
          have l2 := ld_ev (hm5.row k hkm) (k := j) (by rw [row_len hr.width hkm]; exact hj)
          have hplt := hr.lt k hk
          have hcell : (H5 ++ [.cells (evs cd (lnullk n M P j k)) 3 none false])[H5.length]? = some (.cells (evs cd (lnullk n M P j k)) 3 none false) := by simp
          have s1 := st_ev (x := Fl.neg ((M.getD k []).getD j Fl.zero)) hcell (k := P.getD k 0) (by rw [lnullk_length]; exact hplt)
          rw [set_new0] at s1
          simp (disch := omega) only [zA, zB, zC, zD, zF, zG, zH, ↓reduceIte, hk, pi_, pd', hbx5, v5, hkb, l1, hj, l2]
          refine FZ.use (F.neg _ _ ((hp05.trans hX).get hb)) ?_
          simp (disch := omega) only [zA, zB, zC, zD, zF, zG, zH, ↓reduceIte, hplt, s1]
          exact hJ2 _ _ ⟨rfl, rfl⟩
        · rintro i _ ⟨rfl, rfl⟩ J2
          have hX := Pre.new H5 [.cells (evs cd (lnullk n M P j P.length)) 3 none false]
          have hrow : Row (H5 ++ [.cells (evs cd (lnullk n M P j P.length)) 3 none false]) (.slice (some ⟨H5.length, 0, none⟩) n n) (evs cd (lnullk n M P j P.length)) := Row.of (e := 3) (op := none) (r := false) (by simp) (by rw [List.length_map, lnullk_length]) (Nat.le_refl _)
          have hpp := hp5.trans hX
          have hcount : (((List.range j).filter fun c => decide (c ∉ P)).map fun c => lnullk n M P c P.length).length ≤ j := by
            rw [List.length_map]
            exact Nat.le_trans (List.length_filter_le _ _) (by simp)
          obtain ⟨out', H6, e1, ho', hp', _⟩ := (ho.pre hX).app1 (by_ := 24) hpp.len hrow (evs_plain _) (by rw [List.length_map]; omega) (by rw [List.length_map]; omega) (e2 := 26)
          simp only [List.append_assoc, List.cons_append, List.nil_append, List.length_append, List.length_cons, List.length_nil] at e1
          simp (disch := (first | omega | (simp only [stLen] <;> omega) | (simp only [all_nv]; done) | rfl)) only [zA, zB, zC, zD, zF, zG, zH, Nat.reduceEqDiff, Nat.reduceLT, Nat.reduceLeDiff, ↓reduceIte, hrow.fill, e1]
          refine hJ _ _ _ ⟨rfl, hp' hpp, ?_⟩
          rw [hrng, if_pos (by simpa using hjP), List.map_append]
          simpa using ho'
    · rintro l i H5 ⟨rfl, hp5, ho⟩ J
      have hp05 := hp04.trans hp5
      have hbx5 := (hp4.trans hp5).get (b := H.length) (x := fbx p e b c) (by simp)
      have hnl := lnulls_len n M P
      have hN : ((List.range n).filter (fun c => decide (c ∉ P))).map (fun c => lnullk n M P c P.length) = lnulls n M P := rfl
      rw [hN] at ho
      have hcount : (lnulls n M P).length ≤ n := by
        rw [lnulls, List.length_map]
        exact Nat.le_trans (List.length_filter_le _ _) (by simp)
      simp (disch := omega) only [zA, zB, zC, zD, zF, zG, zH, ↓reduceIte, hbx5]
      refine FZ.mono (reduce_p F (n := n) (hp05.get hb) ho.rowR hnl (by omega) (by omega) hn0) ?_
      rintro r H6 ⟨hp6, hr6⟩
      rw [lnulls_kernel hr hl hs] at hr6
      exact ⟨hp05.trans hp6, hr6⟩
end
end Go.Sim

namespace Go.Sim
open Go Go.Proofs
theorem slice_from {H : AH} {b n m lo : Nat} {vs : List Value} (h : Row H (.slice (some ⟨b, 0, none⟩) n m) vs) (hn : n = vs.length) (hc : n ≤ m) (hlo : lo ≤ n) : ∃ v', xpure (.slS 1 true false) [.slice (some ⟨b, 0, none⟩) n m, nv lo] = some v' ∧ Row H v' (vs.drop lo) := by
  by_cases hlt : lo < n
  · exact h.from (by omega)
  · have hd : vs.drop lo = [] := List.drop_of_length_le (by omega)
    rw [hd]
    simp only [xpure, bnds, Option.getD_some, Option.getD_none]
    rw [if_pos ⟨trivial, by omega, by omega, by omega⟩]
    split
    · rename_i h0
      have : n = 0 := by omega
      subst this
      exact ⟨_, rfl, .inl ⟨rfl, _, _, rfl⟩⟩
    · have e : ((n : Int).toNat - (lo : Int).toNat) = 0 := by omega
      split
      · exact ⟨_, rfl, .inl ⟨rfl, _, _, by rw [e]⟩⟩
      · exact ⟨_, rfl, .inl ⟨rfl, _, _, rfl⟩⟩
theorem xnew_makeS {e : TypeId} {bytes a : Nat} (h : bytes * a ≤ 281474976710656) (h2 : a ≤ 9223372036854775807) : xnew (.make (.slice none 0 0) 1 bytes e) [nv a, nv a] = some (List.replicate a (.slice none 0 0), e, fun b => .slice (some ⟨b, 0, none⟩) a a) := by
  simp only [xnew]
  rw [if_pos ⟨by omega, by omega, by omega, by omega⟩]
  have : ∀ n, madeL (.slice none 0 0) n = List.replicate n (.slice none 0 0) := fun n => by
    unfold madeL madeCells
    refine List.ext_getElem (by simp) fun i h1 h2 => ?_
    simp [Value.cells, Nat.mod_one]
  simp only [Int.toNat_natCast, Nat.mul_one, this]
def zsp (base n m k : Nat) : List Value := (List.range m).map fun i => if i < k then .slice (some ⟨base + i, 0, none⟩) n n else .slice none 0 0
def zheap (H0 : AH) (n m k : Nat) (row : Nat → List Value) : AH := H0 ++ .cells (zsp (H0.length + 1) n m k) 26 none false :: (List.range k).map fun i => .cells (row i) 3 none false
section
variable {H0 : AH} {n m k : Nat} {row : Nat → List Value}
theorem zsp_zero {base : Nat} : zsp base n m 0 = List.replicate m (.slice none 0 0) := by
  refine List.ext_getElem (by simp [zsp]) fun i h1 h2 => by simp [zsp]
theorem zsp_set {base : Nat} (hk : k < m) : (zsp base n m k).set k (.slice (some ⟨base + k, 0, none⟩) n n) = zsp base n m (k + 1) := by
  refine List.ext_getElem (by simp [zsp]) fun i h1 h2 => ?_
  rw [List.getElem_set]
  simp only [zsp, List.getElem_map, List.getElem_range]
  by_cases h : k = i
  · subst h; simp
  · rw [if_neg h]
    by_cases h3 : i < k
    · rw [if_pos h3, if_pos (by omega)]
    · rw [if_neg h3, if_neg (by omega)]
theorem zheap_zero : zheap H0 n m 0 row = H0 ++ [.cells (List.replicate m (.slice none 0 0)) 26 none false] := by simp [zheap, zsp_zero]
theorem zheap_len : (zheap H0 n m k row).length = H0.length + 1 + k := by simp [zheap]; omega
theorem zheap_get (Y : AH) : (zheap H0 n m k row ++ Y)[H0.length]? = some (.cells (zsp (H0.length + 1) n m k) 26 none false) := by simp [zheap]
theorem zheap_pre : Pre H0 (zheap H0 n m k row) := Pre.new H0 _
theorem zheap_step (hk : k < m) : (zheap H0 n m k row ++ [AB.cells (row k) 3 none false]).set H0.length (.cells ((zsp (H0.length + 1) n m k).set k (.slice (some ⟨(zheap H0 n m k row).length, 0, none⟩) n n)) 26 none false) = zheap H0 n m (k + 1) row := by
  rw [zheap_len, zsp_set hk]
  simp [zheap, List.range_succ]
theorem zheap_row (hm : m = k) {css : List (List Value)} (hl : css.length = m) (hr : ∀ i, i < m → row i = css.getD i []) (hn : ∀ cs ∈ css, cs.length = n) : RowR (zheap H0 n m k row) (.slice (some ⟨H0.length, 0, none⟩) m m) css := by
  subst hm
  have h0 : (zheap H0 n m m row)[H0.length]? = some (.cells (zsp (H0.length + 1) n m m) 26 none false) := by have := zheap_get (H0 := H0) (n := n) (m := m) (k := m) (row := row) []; simpa using this
  have hx := RowX.of_take (k := m) (c := m) h0 (by simp [zsp]) (Nat.le_refl _)
  rw [List.take_of_length_le (by simp [zsp])] at hx
  refine ⟨_, hx, by simp [zsp, hl], fun i hi => ?_⟩
  have hi' : i < m := by omega
  have e1 : (zsp (H0.length + 1) n m m).getD i undef = .slice (some ⟨H0.length + 1 + i, 0, none⟩) n n := by
    simp [zsp, List.getD_eq_getElem?_getD, hi']
  rw [e1]
  refine Row.of (e := 3) (op := none) (r := false) ?_ (hn _ (getD_mem hi)).symm (Nat.le_refl _)
  rw [← hr i hi']
  simp [zheap, hi', Nat.add_assoc, Nat.add_comm 1]
end
section
variable {α : Type} [Fl α] [DecidableEq α] {cd : α → Nat} {p e b c q : Nat} {blk : AB} {H : AH}
theorem Mat.rows {n mb sb : Nat} {bs : List Nat} {M : List (List α)} (h : Mat cd p e b c n mb sb bs H M) : Row H (.slice (some ⟨sb, 0, none⟩) bs.length bs.length) (bs.map (rsl n)) ∧ ∀ k, k < M.length → Row H (rsl n (bs.getD k 0)) (evs cd (M.getD k [])) := by
  obtain ⟨op, ho⟩ := h.spine
  exact ⟨Row.of ho (by simp) (Nat.le_refl _), fun k hk => Row.of (h.row k hk) (by rw [List.length_map, row_len h.width hk]) (Nat.le_refl _)⟩
theorem meet_p (F : FOK α cd p e b c q blk) {v w : Value} {n : Nat} {A B : List (List α)} (hb : H[b]? = some blk) (hv : RowR H v (evr cd A)) (hw : RowR H w (evr cd B)) (hA : ∀ x ∈ A, x.length = n) (hB : ∀ x ∈ B, x.length = n) (hlA : A.length ≤ 400) (hlB : B.length ≤ 400) (hn : n ≤ 500) (hn0 : 0 < n) :
    FN Try.prog 50 [fldv p e b e c, nv n, v, w] H (fun r H' => Pre H H' ∧ RowR H' r (evr cd (lmeet n A B))) := by
  refine g50_of ?_
  unfold g50
  have hp1 := Pre.new H [fbx p e b c]
  obtain ⟨ws, hws, hwl, hwr⟩ := hw.open
  obtain ⟨wl, _, _, _⟩ := hws.allV
  rw [hwl] at wl
  have h24 : 24 * B.length ≤ 281474976710656 := by omega
  have h8 : 8 * n ≤ 281474976710656 := by omega
  have hH0 : (H ++ [fbx p e b c]).length = H.length + 1 := by simp
  have hst : H ++ [fbx p e b c, .cells (List.replicate B.length (.slice none 0 0)) 26 none false] = zheap (H ++ [fbx p e b c]) n B.length 0 (fun _ => (List.replicate n 0).map nv) := by rw [zheap_zero]; simp
  simp (disch := omega) only [zA, zB, zC, zD, zF, zG, zH, ↓reduceIte, wl, xnew_makeS, h24]
  refine loopV1.nat B.length (fun k i H' => i = nv k ∧ H' = zheap (H ++ [fbx p e b c]) n B.length k (fun _ => (List.replicate n 0).map nv)) ⟨rfl, hst⟩ ?_ ?_
  · rintro k i _ hk ⟨rfl, rfl⟩ J hJ
    have hg := zheap_get (H0 := H ++ [fbx p e b c]) (n := n) (m := B.length) (k := k) (row := fun _ => (List.replicate n 0).map nv) [.cells ((List.replicate n 0).map nv) 3 none false]
    have s1 := st_cell (v := .slice (some ⟨(zheap (H ++ [fbx p e b c]) n B.length k (fun _ => (List.replicate n 0).map nv)).length, 0, none⟩) n n) hg (k := k) (by simp [zsp]; exact hk) rfl rfl
    rw [zheap_step hk, hH0] at s1
    generalize hZ : zheap (H ++ [fbx p e b c]) n B.length k (fun _ => (List.replicate n 0).map nv) = Z at *
    simp (disch := omega) only [zA, zB, zC, zD, zF, zG, zH, ↓reduceIte, hk, xnew_makeN, h8, s1]
    exact hJ _ _ ⟨rfl, rfl⟩
  · rintro i _ ⟨rfl, rfl⟩ J
    have hpZ : Pre (H ++ [fbx p e b c]) (zheap (H ++ [fbx p e b c]) n B.length B.length (fun _ => (List.replicate n 0).map nv)) := zheap_pre
    have hzl : (lzeros (α := α) B.length n).length = B.length := by simp [lzeros]
    have hzn : ∀ x ∈ lzeros (α := α) B.length n, x.length = n := fun x hx => by rw [List.eq_of_mem_replicate hx]; simp
    have hz : RowR (zheap (H ++ [fbx p e b c]) n B.length B.length (fun _ => (List.replicate n 0).map nv)) (.slice (some ⟨H.length + 1, 0, none⟩) B.length B.length) (evr cd (lzeros B.length n)) := by
      rw [← hH0]
      refine zheap_row rfl (by simp [lzeros]) (fun i hi => ?_) (fun cs hcs => ?_)
      · rw [zero_evs F]
        simp [lzeros, List.getD_eq_getElem?_getD, List.getElem?_replicate, hi]
      · obtain ⟨x, hx, rfl⟩ := List.mem_map.1 hcs
        rw [List.length_map, hzn x hx]
    generalize zheap (H ++ [fbx p e b c]) n B.length B.length (fun _ => (List.replicate n 0).map nv) = Z at *
    have hp0Z := hp1.trans hpZ
    have hbxZ := hpZ.get (b := H.length) (x := fbx p e b c) (by simp)
    simp (disch := omega) only [zA, zB, zC, zD, zF, zG, zH, ↓reduceIte, hbxZ]
    refine FZ.mono (beside_p (hv.pre hp0Z) (hv.pre hp0Z) hA hA (by omega) rfl (by omega) (by omega) hn0 hn0) ?_
    rintro s1 H6 ⟨hp6, hs1⟩
    have hp06 := hp0Z.trans hp6
    have hbx6 := (hpZ.trans hp6).get (b := H.length) (x := fbx p e b c) (by simp)
    simp (disch := omega) only [zA, zB, zC, zD, zF, zG, zH, ↓reduceIte, hbx6]
    refine FZ.mono (beside_p (hw.pre hp06) (hz.pre hp6) hB hzn (by omega) hzl.symm (by omega) (by omega) hn0 hn0) ?_
    rintro s2 H7 ⟨hp7, hs2⟩
    have hp17 := (hpZ.trans hp6).trans hp7
    have hp07 := hp1.trans hp17
    have hbx7 := hp17.get (b := H.length) (x := fbx p e b c) (by simp)
    obtain ⟨us1, hus1, hr1⟩ := hs1.pre hp7
    obtain ⟨us2, hus2, hr2⟩ := hs2
    have hl1 : us1.length = A.length := by have := hr1.1; simpa [lbeside] using this
    have hl2 : us2.length = B.length := by have := hr2.1; simpa [lbeside, lzeros] using this
    have hX := Pre.new H7 [.cells [s1, s2] 27 none false]
    have hbx8 := (hp17.trans hX).get (b := H.length) (x := fbx p e b c) (by simp)
    have hsl : Row (H7 ++ [.cells [s1, s2] 27 none false]) (.slice (some ⟨H7.length, 0, none⟩) 2 2) [s1, s2] := Row.of (e := 27) (op := none) (r := false) (by simp) rfl (Nat.le_refl _)
    simp (disch := (first | omega | (simp only [stLen] <;> omega) | (simp only [all_nv]; done) | rfl)) only [zA, zB, zC, zD, zF, zG, zH, Nat.reduceEqDiff, Nat.reduceLT, Nat.reduceLeDiff, ↓reduceIte, hbx7, hus1.1.fill, hus2.1.fill, hbx8]
    refine FZ.mono (concatR_c hsl (uss := [us1, us2]) rfl (fun k hk => ?_) (by intro us hus; simp at hus; rcases hus with rfl | rfl; exact hr1.ones; exact hr2.ones) (by simp; omega) (by simp)) ?_
    · simp at hk
      rcases (show k = 0 ∨ k = 1 by omega) with rfl | rfl
      · exact hus1.pre hX
      · exact hus2.pre hX
    rintro s3 H9 ⟨hp9, ha⟩
    have hp79 := hX.trans hp9
    have hp19 := hp17.trans hp79
    have hp09 := hp1.trans hp19
    have hbx9 := hp19.get (b := H.length) (x := fbx p e b c) (by simp)
    have hrows : RowR H9 s3 (evr cd (lbeside A A ++ lbeside B (lzeros B.length n))) := ⟨us1 ++ us2, by simpa using ha.x, by simpa using (hr1.pre hp79).append (hr2.pre hp79)⟩
    have hZl := app_len (lbeside_len hA hA) (lbeside_len hB hzn)
    have hZn : (lbeside A A ++ lbeside B (lzeros B.length n)).length ≤ 800 := by simp [lbeside, lzeros]; omega
    simp (disch := omega) only [zA, zB, zC, zD, zF, zG, zH, ↓reduceIte, hbx9]
    refine FZ.mono (of_c F hrows hZl (by omega) (by omega) (by omega)) ?_
    rintro m H10 ⟨hp10, mb, rfl, hmb, hm⟩
    have hp110 := hp19.trans hp10
    have hp010 := hp1.trans hp110
    have hb10 := hp010.get hb
    rcases hm with ⟨hM0, hm⟩ | ⟨hM0, sb, bs, hm, hnew⟩
    · have hA0 : A = [] := by
        cases A with
        | nil => rfl
        | cons x l => simp [lbeside] at hM0
      have hB0 : B = [] := by
        cases B with
        | nil => rfl
        | cons x l => simp [lbeside, lzeros] at hM0
      subst hA0
      subst hB0
      have hbx10 := hp110.get (b := H.length) (x := fbx p e b c) (by simp)
      have e1 : xpure (.slS 1 true false) [.slice none 0 0, nv 0] = some (.slice none 0 0) := rfl
      simp (disch := omega) only [zA, zB, zC, zD, zF, zG, zH, ↓reduceIte, hm]
      refine FZ.use (preduce0_c hm (by omega)) ?_
      simp (disch := omega) only [zA, zB, zC, zD, zF, zG, zH, ↓reduceIte, hm, e1]
      refine loopV2.nat 0 (fun k l i H' => i = nv 0 ∧ l = .slice none 0 0 ∧ H' = H10) ⟨rfl, rfl, rfl⟩ (fun _ _ _ _ h => absurd h (Nat.not_lt_zero _)) ?_
      rintro l i H11 ⟨rfl, rfl, rfl⟩ J2
      simp (disch := omega) only [zA, zB, zC, zD, zF, zG, zH, ↓reduceIte, hbx10]
      refine FZ.mono (reduce_p F (n := n) (M := []) hb10 (AccR.nil (H0 := H) (e := 26)).rowR (by simp) (by simp) (by omega) hn0) ?_
      rintro r H15 ⟨hp15, hr⟩
      refine ⟨hp010.trans hp15, ?_⟩
      have h0 := zass (n := n) (A := ([] : List (List α))) (B := []) (M := []) (P := []) (fun x hx => absurd hx (by simp)) (fun x hx => absurd hx (by simp)) ⟨Nat.le_refl _, fun x hx => absurd hx (by simp), fun i hi => absurd hi (Nat.not_lt_zero _), fun i j _ hj => absurd hj (Nat.not_lt_zero _), fun i hi => absurd hi (Nat.not_lt_zero _), fun i k hi => absurd hi (Nat.not_lt_zero _), fun i j hi => absurd hi (Nat.not_lt_zero _), fun k j _ hk => absurd hk (Nat.not_lt_zero _)⟩ (fun u => Iff.rfl)
      rw [← h0]
      exact hr
    · have v10 := hm.var
      have hbn : b ∉ mb :: sb :: bs := fun hx => by have := hnew b hx; have := get_lt hb; have := hp09.len; omega
      simp (disch := omega) only [zA, zB, zC, zD, zF, zG, zH, ↓reduceIte, v10]
      refine FZ.mono (preduce_c F hb10 hbn hm (by omega) (by omega) (by omega) (List.length_pos_iff.2 hM0)) ?_
      rintro piv H11 ⟨bs', M', P, hm11, hr11, hl11, hs11, ha11, hf11, hsub11, hlen11⟩
      have v11 := hm11.var
      have hbl : bs'.length = bs.length := by have := hm11.len; have := hm.len; omega
      rw [hbl] at v11
      have hpl : xpure .lenS [piv] = some (nv P.length) := by have := ha11.row.len; simpa using this
      have hPl := hr11.len
      have hbm := hm11.len
      obtain ⟨hsp, hrw⟩ := hm11.rows
      obtain ⟨v', e1, hv'⟩ := slice_from hsp (by simp) (Nat.le_refl _) (lo := P.length) (by omega)
      rw [hbl] at e1
      have hp111 : Pre (H ++ [fbx p e b c]) H11 := fun x hx => by
        have hl9 := hp19.len
        have hxn : x ∉ mb :: sb :: bs := fun hx2 => by have h := hnew x hx2; omega
        rw [hf11 x (by have h := hp10.len; omega) hxn, hp110 x hx]
      have hp011 := hp1.trans hp111
      obtain ⟨tl, ti, td, _⟩ := hv'.allV
      have htl : (((bs'.map (rsl (n + n))).drop P.length)).length = M'.length - P.length := by simp; omega
      rw [htl] at tl
      simp (disch := omega) only [zA, zB, zC, zD, zF, zG, zH, ↓reduceIte, v11, hpl, e1, tl]
      refine loopV2.nat (M'.length - P.length) (fun k l i H' => i = nv k ∧ Pre H11 H' ∧ AccR H11 H' l (evr cd (((M'.drop P.length).take k).map fun x => x.drop n)) 26) ⟨rfl, Pre.refl _, AccR.nil⟩ ?_ ?_
      · rintro k l i H12 hk ⟨rfl, hp12, ho⟩ J2 hJ2
        obtain ⟨_, ti', td', _⟩ := (hv'.pre hp12).allV
        have hk' : k < ((bs'.map (rsl (n + n))).drop P.length).length := by omega
        have hg1 : ((bs'.map (rsl (n + n))).drop P.length).getD k undef = rsl (n + n) (bs'.getD (P.length + k) 0) := by
          simp [List.getD_eq_getElem?_getD, List.getElem?_eq_getElem (show P.length + k < bs'.length by omega)]
        have ht2 := td' k hk'
        rw [hg1] at ht2
        have hkM : P.length + k < M'.length := by omega
        have hrow := (hrw (P.length + k) hkM).pre hp12
        have hyl := row_len hm11.width hkM
        obtain ⟨v2, e2, hv2⟩ := hrow.from (lo := n) (by rw [List.length_map, hyl]; omega)
        have hv3 : Row H12 v2 (evs cd ((M'.getD (P.length + k) []).drop n)) := by simpa using hv2
        obtain ⟨out', H13, e3, ho', hp', _⟩ := ho.app1 (by_ := 24) hp12.len hv3 (evs_plain _) (by simp; omega) (by simp; omega) (e2 := 26)
        simp (disch := (first | omega | (simp only [stLen] <;> omega) | (simp only [all_nv]; done) | rfl)) only [zA, zB, zC, zD, zF, zG, zH, Nat.reduceEqDiff, Nat.reduceLT, Nat.reduceLeDiff, ↓reduceIte, hk, ti', hk', ht2, e2, hv2.fill, e3]
        refine hJ2 _ _ _ ⟨rfl, hp' hp12, ?_⟩
        have he : (M'.drop P.length).take (k + 1) = (M'.drop P.length).take k ++ [M'.getD (P.length + k) []] := by
          rw [List.take_succ_eq_append_getElem (by rw [List.length_drop]; omega)]
          simp [List.getD_eq_getElem?_getD, List.getElem?_eq_getElem hkM]
        rw [he, List.map_append]
        simpa using ho'
      · rintro l i H12 ⟨rfl, hp12, ho⟩ J2
        have hbx12 := (hp111.trans hp12).get (b := H.length) (x := fbx p e b c) (by simp)
        rw [List.take_of_length_le (by rw [List.length_drop]; exact Nat.le_refl _)] at ho
        simp (disch := omega) only [zA, zB, zC, zD, zF, zG, zH, ↓reduceIte, hbx12]
        refine FZ.mono (reduce_p F (n := n) ((hp011.trans hp12).get hb) ho.rowR (fun x hx => ?_) (by rw [List.length_map, List.length_drop]; omega) (by omega) hn0) ?_
        · obtain ⟨y, hy, rfl⟩ := List.mem_map.1 hx
          rw [List.length_drop, hm11.width y (List.mem_of_mem_drop hy)]; omega
        rintro r H15 ⟨hp15, hr⟩
        rw [zass hA hB hr11 hs11] at hr
        exact ⟨(hp011.trans hp12).trans hp15, hr⟩
end
end Go.Sim
