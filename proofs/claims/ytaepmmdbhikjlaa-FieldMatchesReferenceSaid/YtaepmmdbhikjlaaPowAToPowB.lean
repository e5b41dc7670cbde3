/- Part of the proof: PowA, PowB. -/
import Derived.Test.YtaepmmdbhikjlaaFieldQToFieldV
import Derived.Test.YtaepmmdbhikjlaaFieldX
set_option linter.unusedSimpArgs false
namespace Go.Sim
open Go Go.Proofs

/-! ### orders, as the code makes them -/
def ordI (p e : Nat) (m : List Nat) (a f : Nat) : Nat → Nat → Nat
  | 0, n => n
  | k + 1, n => if n % f = 0 ∧ powF p e m a (n / f) = 1 then ordI p e m a f k (n / f) else n
def ordF (p e : Nat) (m fs : List Nat) (a : Nat) : Nat := fs.foldl (fun n f => ordI p e m a f n n) (p ^ e - 1)
def ordV (p e : Nat) (m fs : List Nat) (a : Nat) : Nat := if a = 0 then 0 else ordF p e m fs a
def FacOk (n : Nat) (fs : List Nat) : Prop := (∀ f ∈ fs, 2 ≤ f ∧ f < 1000) ∧ fs.length ≤ 100 ∧ (KnownOk Try.prog 42 [nv n] (.row fs.length fs.length (.cells (fs.map nv) 3 (some 1) false)) ∨ (fs = [] ∧ KnownOk Try.prog 42 [nv n] (.val (.slice none 0 0))))

theorem ordI_pos {p e : Nat} {m : List Nat} {a f : Nat} (hf : 2 ≤ f) : ∀ k n, 1 ≤ n → 1 ≤ ordI p e m a f k n ∧ ordI p e m a f k n ≤ n
  | 0, n, h => ⟨h, Nat.le_refl _⟩
  | k + 1, n, h => by
    rw [ordI]
    split
    · rename_i hc
      have h1 : 1 ≤ n / f := by
        have := Nat.div_add_mod n f
        rw [hc.1] at this
        rcases Nat.eq_zero_or_pos (n / f) with h0 | h0
        · rw [h0] at this; simp at this; omega
        · exact h0
      have := ordI_pos (p := p) (e := e) (m := m) (a := a) hf k (n / f) h1
      have h2 := Nat.div_le_self n f
      omega
    · omega
theorem ordL_pos {p e : Nat} {m : List Nat} {a : Nat} : ∀ (fs : List Nat) (n : Nat), (∀ f ∈ fs, 2 ≤ f ∧ f < 1000) → 1 ≤ n → 1 ≤ fs.foldl (fun n f => ordI p e m a f n n) n ∧ fs.foldl (fun n f => ordI p e m a f n n) n ≤ n
  | [], n, _, h => ⟨h, Nat.le_refl _⟩
  | f :: fs, n, hf, h => by
    have h1 := ordI_pos (p := p) (e := e) (m := m) (a := a) (hf f (by simp)).1 n n h
    have h2 := ordL_pos (p := p) (e := e) (m := m) (a := a) fs _ (fun f h => hf f (by simp [h])) h1.1
    simp only [List.foldl_cons]
    omega

theorem order_spec {p e b c x : Nat} {m fs : List Nat} {g : Nat} {E : List Nat} {H : AH} {el : TypeId} {op : Option Nat} {r : Bool} (F : FT p e m g E) (hb : H[b]? = some (.cells (m.map nv) el op r)) (hx : x < p ^ e) (hfac : FacOk (p ^ e - 1) fs) :
    FN Try.prog 31 [fldv p e b e c, nv x] H (fun v H' => v = nv (ordV p e m fs x) ∧ H' = H) := by
  have hp := F.hp
  have he6 := F.e6
  have hq := F.q
  have hq2 := F.q2
  have hb2 := fun (Y : AH) => get_old (L := Y) hb
  refine FN.gc0 (FN.of_compZ mixed xf31_ok (Nat.le_of_ble_eq_true rfl) ?_)
  by_cases hx0 : x = 0
  · subst hx0
    simp (disch := (first | omega | (simp only [List.length_map]; omega) | (simp only [List.length_map, List.length_set, List.length_replicate, List.length_append, List.length_cons, List.length_nil] <;> omega) | (simp only [all_nv]; done) | rfl)) only [↓stPre, stOwn, stNat, stList, stProp, Nat.reduceEqDiff, Nat.reduceLT, Nat.reduceLeDiff, ↓reduceIte, eq_self, true_implies, false_implies, ite_true, ite_false, if_true, if_false, ne_eq, xf31]
    simp [ground, scal, ordV]
  simp (disch := (first | omega | (simp only [List.length_map]; omega) | (simp only [List.length_map, List.length_set, List.length_replicate, List.length_append, List.length_cons, List.length_nil] <;> omega) | (simp only [all_nv]; done) | rfl)) only [↓stPre, stOwn, stNat, stList, stProp, Nat.reduceEqDiff, Nat.reduceLT, Nat.reduceLeDiff, ↓reduceIte, eq_self, true_implies, false_implies, ite_true, ite_false, if_true, if_false, ne_eq, xf31, hx0]
  refine FZ.use (sound_spec F.p2 F.e1 F.e6 rfl F.q) ?_
  simp (disch := (first | omega | (simp only [List.length_map]; omega) | (simp only [List.length_map, List.length_set, List.length_replicate, List.length_append, List.length_cons, List.length_nil] <;> omega) | (simp only [all_nv]; done) | rfl)) only [↓stPre, stOwn, stNat, stList, stProp, Nat.reduceEqDiff, Nat.reduceLT, Nat.reduceLeDiff, ↓reduceIte, eq_self, true_implies, false_implies, ite_true, ite_false, if_true, if_false, ne_eq, hx0]
  refine FZ.use (size_spec F.p2 F.e1 F.e6 rfl F.q) ?_
  simp (disch := (first | omega | (simp only [List.length_map]; omega) | (simp only [List.length_map, List.length_set, List.length_replicate, List.length_append, List.length_cons, List.length_nil] <;> omega) | (simp only [all_nv]; done) | rfl)) only [↓stPre, stOwn, stNat, stList, stProp, Nat.reduceEqDiff, Nat.reduceLT, Nat.reduceLeDiff, ↓reduceIte, eq_self, true_implies, false_implies, ite_true, ite_false, if_true, if_false, ne_eq, hx0]
  obtain ⟨hfs, hfl, hfac⟩ := hfac
  rcases hfac with hfac | ⟨rfl, hfac⟩
  · refine FZ.known hfac ?_
    simp (disch := (first | omega | (simp only [List.length_map]; omega) | (simp only [List.length_map, List.length_set, List.length_replicate, List.length_append, List.length_cons, List.length_nil] <;> omega) | (simp only [all_nv]; done) | rfl)) only [↓stPre, stOwn, stNat, stList, stProp, Nat.reduceEqDiff, Nat.reduceLT, Nat.reduceLeDiff, ↓reduceIte, eq_self, true_implies, false_implies, ite_true, ite_false, if_true, if_false, ne_eq, KRes.mk, KRes.hp]
    have hB : ∀ k, 1 ≤ (fs.take k).foldl (fun n f => ordI p e m x f n n) (p ^ e - 1) ∧ (fs.take k).foldl (fun n f => ordI p e m x f n n) (p ^ e - 1) ≤ p ^ e - 1 := fun k => ordL_pos (fs.take k) _ (fun f h => hfs f (List.mem_of_mem_take h)) (by omega)
    refine LZ.nat fs.length (fun k s H' => s.env 1 = nv x ∧ s.env 2 = .pointer (some ⟨H.length, 0, none⟩) ∧ s.env 5 = nv ((fs.take k).foldl (fun n f => ordI p e m x f n n) (p ^ e - 1)) ∧ s.env 19 = .slice (some ⟨H.length + 1, 0, none⟩) fs.length fs.length ∧ s.env 20 = nv fs.length ∧ s.env 21 = nv k ∧ s.ds = [] ∧
       H' = H ++ [.cells [nv p, nv e, .slice (some ⟨b, 0, none⟩) e c] 26 none false, .cells (fs.map nv) 3 (some 1) false]) ?_ ?_ ?_
    · simp (disch := (first | omega | (simp only [List.length_map]; omega) | (simp only [List.length_map, List.length_set, List.length_replicate, List.length_append, List.length_cons, List.length_nil] <;> omega) | (simp only [all_nv]; done) | rfl)) only [↓stPre, stOwn, stNat, stList, stProp, Nat.reduceEqDiff, Nat.reduceLT, Nat.reduceLeDiff, ↓reduceIte, eq_self, true_implies, false_implies, ite_true, ite_false, if_true, if_false, ne_eq]
      simp [KRes.mk, KRes.hp]
    · rintro k s H1 hk ⟨e1, e2, e5, e19, e20, e21, eds, rfl⟩
      obtain ⟨n1, n2⟩ := hB k
      have hget : fs[k]? = some (fs.getD k 0) := by rw [List.getD_eq_getElem?_getD, List.getElem?_eq_getElem hk]; rfl
      rw [show fs.take (k + 1) = fs.take k ++ [fs.getD k 0] by rw [List.take_add_one, hget]; rfl, List.foldl_append]
      generalize (fs.take k).foldl (fun n f => ordI p e m x f n n) (p ^ e - 1) = N at *
      have hf := hfs _ (List.mem_of_getElem? hget)
      generalize hff : fs.getD k 0 = f at *
      simp (disch := (first | omega | (simp only [List.length_map]; omega) | (simp only [List.length_map, List.length_set, List.length_replicate, List.length_append, List.length_cons, List.length_nil] <;> omega) | (simp only [all_nv]; done) | rfl)) only [↓stPre, stOwn, stNat, stList, stProp, Nat.reduceEqDiff, Nat.reduceLT, Nat.reduceLeDiff, ↓reduceIte, eq_self, true_implies, false_implies, ite_true, ite_false, if_true, if_false, ne_eq, e1, e2, e5, e19, e20, e21, eds, hk, hff]
      refine LZ.ind (fun n s H' => ∃ fu, n ≤ fu ∧ 1 ≤ n ∧ n ≤ p ^ e - 1 ∧ ordI p e m x f fu n = ordI p e m x f N N ∧ s.env 1 = nv x ∧ s.env 2 = .pointer (some ⟨H.length, 0, none⟩) ∧ s.env 5 = nv n ∧ s.env 7 = nv f ∧ s.env 19 = .slice (some ⟨H.length + 1, 0, none⟩) fs.length fs.length ∧ s.env 20 = nv fs.length ∧ s.env 21 = nv k ∧ s.ds = [] ∧
         H' = H ++ [.cells [nv p, nv e, .slice (some ⟨b, 0, none⟩) e c] 26 none false, .cells (fs.map nv) 3 (some 1) false]) N ?_ ?_
      · refine ⟨N, Nat.le_refl _, n1, n2, rfl, ?_⟩
        simp (disch := (first | omega | (simp only [List.length_map]; omega) | (simp only [List.length_map, List.length_set, List.length_replicate, List.length_append, List.length_cons, List.length_nil] <;> omega) | (simp only [all_nv]; done) | rfl)) only [↓stPre, stOwn, stNat, stList, stProp, Nat.reduceEqDiff, Nat.reduceLT, Nat.reduceLeDiff, ↓reduceIte, eq_self, true_implies, false_implies, ite_true, ite_false, if_true, if_false, ne_eq, e1, e2, e5, e19, e20, e21, eds]
      · rintro n s H1 ⟨fu, h1, h2, h3, h4, g1, g2, g5, g7, g19, g20, g21, gds, rfl⟩
        obtain ⟨fu, rfl⟩ : ∃ k, fu = k + 1 := ⟨fu - 1, by omega⟩
        rw [ordI] at h4
        have hf0 : f ≠ 0 := by omega
        by_cases hm : n % f = 0
        · have hd0 : 1 ≤ n / f := by
            have := Nat.div_add_mod n f
            rw [hm] at this
            rcases Nat.eq_zero_or_pos (n / f) with h0 | h0
            · rw [h0] at this; simp at this; omega
            · exact h0
          have hd1 : n / f < n := Nat.div_lt_self (by omega) (by omega)
          simp (disch := (first | omega | (simp only [List.length_map]; omega) | (simp only [List.length_map, List.length_set, List.length_replicate, List.length_append, List.length_cons, List.length_nil] <;> omega) | (simp only [all_nv]; done) | rfl)) only [↓stPre, stOwn, stNat, stList, stProp, Nat.reduceEqDiff, Nat.reduceLT, Nat.reduceLeDiff, ↓reduceIte, eq_self, true_implies, false_implies, ite_true, ite_false, if_true, if_false, ne_eq, g1, g2, g5, g7, g19, g20, g21, gds, hm, hf0]
          refine FZ.use (power_spec (hb2 _) F.len F.lt F.p2 F.e1 F.e6 F.q (by omega) (by omega)) ?_
          by_cases hpw : powF p e m x (n / f) = 1
          · rw [if_pos ⟨hm, hpw⟩] at h4
            simp (disch := (first | omega | (simp only [List.length_map]; omega) | (simp only [List.length_map, List.length_set, List.length_replicate, List.length_append, List.length_cons, List.length_nil] <;> omega) | (simp only [all_nv]; done) | rfl)) only [↓stPre, stOwn, stNat, stList, stProp, Nat.reduceEqDiff, Nat.reduceLT, Nat.reduceLeDiff, ↓reduceIte, eq_self, true_implies, false_implies, ite_true, ite_false, if_true, if_false, ne_eq, g1, g2, g5, g7, g19, g20, g21, gds, hpw]
            exact ⟨n / f, hd1, fu, by omega, hd0, by omega, h4, rfl⟩
          · rw [if_neg (fun h => hpw h.2)] at h4
            simp (disch := (first | omega | (simp only [List.length_map]; omega) | (simp only [List.length_map, List.length_set, List.length_replicate, List.length_append, List.length_cons, List.length_nil] <;> omega) | (simp only [all_nv]; done) | rfl)) only [↓stPre, stOwn, stNat, stList, stProp, Nat.reduceEqDiff, Nat.reduceLT, Nat.reduceLeDiff, ↓reduceIte, eq_self, true_implies, false_implies, ite_true, ite_false, if_true, if_false, ne_eq, g1, g2, g5, g7, g19, g20, g21, gds, hpw]
            simp [h4]
        · rw [if_neg (fun h => hm h.1)] at h4
          simp (disch := (first | omega | (simp only [List.length_map]; omega) | (simp only [List.length_map, List.length_set, List.length_replicate, List.length_append, List.length_cons, List.length_nil] <;> omega) | (simp only [all_nv]; done) | rfl)) only [↓stPre, stOwn, stNat, stList, stProp, Nat.reduceEqDiff, Nat.reduceLT, Nat.reduceLeDiff, ↓reduceIte, eq_self, true_implies, false_implies, ite_true, ite_false, if_true, if_false, ne_eq, g1, g2, g5, g7, g19, g20, g21, gds, hm, hf0]
          simp [h4]
    · rintro s H1 ⟨e1, e2, e5, e19, e20, e21, eds, rfl⟩
      rw [List.take_length] at e5
      simp (disch := (first | omega | (simp only [List.length_map]; omega) | (simp only [List.length_map, List.length_set, List.length_replicate, List.length_append, List.length_cons, List.length_nil] <;> omega) | (simp only [all_nv]; done) | rfl)) only [↓stPre, stOwn, stNat, stList, stProp, Nat.reduceEqDiff, Nat.reduceLT, Nat.reduceLeDiff, ↓reduceIte, eq_self, true_implies, false_implies, ite_true, ite_false, if_true, if_false, ne_eq, e1, e2, e5, e19, e20, e21, eds, xf31]
      simp [ground, scal, ordV, hx0, ordF]
  · refine FZ.known hfac ?_
    simp (disch := (first | omega | (simp only [List.length_map]; omega) | (simp only [List.length_map, List.length_set, List.length_replicate, List.length_append, List.length_cons, List.length_nil] <;> omega) | (simp only [all_nv]; done) | rfl)) only [↓stPre, stOwn, stNat, stList, stProp, Nat.reduceEqDiff, Nat.reduceLT, Nat.reduceLeDiff, ↓reduceIte, eq_self, true_implies, false_implies, ite_true, ite_false, if_true, if_false, ne_eq, KRes.mk, KRes.hp]
    refine LZ.nat 0 (fun k s H' => s.env 5 = nv (p ^ e - 1) ∧ s.env 20 = nv 0 ∧ s.env 21 = nv 0 ∧ s.ds = [] ∧ H' = H ++ [.cells [nv p, nv e, .slice (some ⟨b, 0, none⟩) e c] 26 none false]) ?_ ?_ ?_
    · simp (disch := (first | omega | (simp only [List.length_map]; omega) | (simp only [List.length_map, List.length_set, List.length_replicate, List.length_append, List.length_cons, List.length_nil] <;> omega) | (simp only [all_nv]; done) | rfl)) only [↓stPre, stOwn, stNat, stList, stProp, Nat.reduceEqDiff, Nat.reduceLT, Nat.reduceLeDiff, ↓reduceIte, eq_self, true_implies, false_implies, ite_true, ite_false, if_true, if_false, ne_eq]
      rfl
    · rintro k s H1 hk _
      omega
    · rintro s H1 ⟨e5, e20, e21, eds, rfl⟩
      simp (disch := (first | omega | (simp only [List.length_map]; omega) | (simp only [List.length_map, List.length_set, List.length_replicate, List.length_append, List.length_cons, List.length_nil] <;> omega) | (simp only [all_nv]; done) | rfl)) only [↓stPre, stOwn, stNat, stList, stProp, Nat.reduceEqDiff, Nat.reduceLT, Nat.reduceLeDiff, ↓reduceIte, eq_self, true_implies, false_implies, ite_true, ite_false, if_true, if_false, ne_eq, e5, e20, e21, eds, xf31]
      simp [ground, scal, ordV, hx0, ordF]

theorem prim_spec {p e b c : Nat} {m fs : List Nat} {g : Nat} {E : List Nat} {H : AH} {el : TypeId} {op : Option Nat} {r : Bool} (F : FT p e m g E) (hb : H[b]? = some (.cells (m.map nv) el op r)) (hfac : FacOk (p ^ e - 1) fs)
    (hg0 : 0 < g) (hgq : g < p ^ e) (h1 : ordV p e m fs g = p ^ e - 1) (h2 : ∀ x, 0 < x → x < g → ordV p e m fs x ≠ p ^ e - 1) :
    FN Try.prog 33 [fldv p e b e c] H (fun v H' => v = nv g ∧ H' = H) := by
  have hq := F.q
  have hq2 := F.q2
  have hb2 := fun (Y : AH) => get_old (L := Y) hb
  refine FN.gc0 (FN.of_compZ mixed xf33_ok (Nat.le_of_ble_eq_true rfl) ?_)
  simp (disch := (first | omega | (simp only [List.length_map]; omega) | (simp only [List.length_map, List.length_set, List.length_replicate, List.length_append, List.length_cons, List.length_nil] <;> omega) | (simp only [all_nv]; done) | rfl)) only [↓stPre, stOwn, stNat, stList, stProp, Nat.reduceEqDiff, Nat.reduceLT, Nat.reduceLeDiff, ↓reduceIte, eq_self, true_implies, false_implies, ite_true, ite_false, if_true, if_false, ne_eq, xf33]
  refine FZ.use (size_spec F.p2 F.e1 F.e6 rfl F.q) ?_
  simp (disch := (first | omega | (simp only [List.length_map]; omega) | (simp only [List.length_map, List.length_set, List.length_replicate, List.length_append, List.length_cons, List.length_nil] <;> omega) | (simp only [all_nv]; done) | rfl)) only [↓stPre, stOwn, stNat, stList, stProp, Nat.reduceEqDiff, Nat.reduceLT, Nat.reduceLeDiff, ↓reduceIte, eq_self, true_implies, false_implies, ite_true, ite_false, if_true, if_false, ne_eq]
  refine LZ.nat g (fun k s H' => s.env 1 = .pointer (some ⟨H.length, 0, none⟩) ∧ s.env 5 = nv (p ^ e) ∧ s.env 6 = nv k ∧ s.ds = [] ∧ H' = H ++ [.cells [nv p, nv e, .slice (some ⟨b, 0, none⟩) e c] 26 none false]) ?_ ?_ ?_
  · simp (disch := (first | omega | (simp only [List.length_map]; omega) | (simp only [List.length_map, List.length_set, List.length_replicate, List.length_append, List.length_cons, List.length_nil] <;> omega) | (simp only [all_nv]; done) | rfl)) only [↓stPre, stOwn, stNat, stList, stProp, Nat.reduceEqDiff, Nat.reduceLT, Nat.reduceLeDiff, ↓reduceIte, eq_self, true_implies, false_implies, ite_true, ite_false, if_true, if_false, ne_eq]
  · rintro k s H1 hk ⟨e1, e5, e6, eds, rfl⟩
    have hkq : k < p ^ e := by omega
    by_cases h0 : 0 < k
    · have h3 := h2 k h0 hk
      simp (disch := (first | omega | (simp only [List.length_map]; omega) | (simp only [List.length_map, List.length_set, List.length_replicate, List.length_append, List.length_cons, List.length_nil] <;> omega) | (simp only [all_nv]; done) | rfl)) only [↓stPre, stOwn, stNat, stList, stProp, Nat.reduceEqDiff, Nat.reduceLT, Nat.reduceLeDiff, ↓reduceIte, eq_self, true_implies, false_implies, ite_true, ite_false, if_true, if_false, ne_eq, e1, e5, e6, eds, hkq, h0]
      refine FZ.use (order_spec F (hb2 _) hkq hfac) ?_
      simp (disch := (first | omega | (simp only [List.length_map]; omega) | (simp only [List.length_map, List.length_set, List.length_replicate, List.length_append, List.length_cons, List.length_nil] <;> omega) | (simp only [all_nv]; done) | rfl)) only [↓stPre, stOwn, stNat, stList, stProp, Nat.reduceEqDiff, Nat.reduceLT, Nat.reduceLeDiff, ↓reduceIte, eq_self, true_implies, false_implies, ite_true, ite_false, if_true, if_false, ne_eq, e1, e5, e6, eds, hkq, h0]
      refine FZ.use (size_spec F.p2 F.e1 F.e6 rfl F.q) ?_
      simp (disch := (first | omega | (simp only [List.length_map]; omega) | (simp only [List.length_map, List.length_set, List.length_replicate, List.length_append, List.length_cons, List.length_nil] <;> omega) | (simp only [all_nv]; done) | rfl)) only [↓stPre, stOwn, stNat, stList, stProp, Nat.reduceEqDiff, Nat.reduceLT, Nat.reduceLeDiff, ↓reduceIte, eq_self, true_implies, false_implies, ite_true, ite_false, if_true, if_false, ne_eq, e1, e5, e6, eds, hkq, h0, h3]
    · simp (disch := (first | omega | (simp only [List.length_map]; omega) | (simp only [List.length_map, List.length_set, List.length_replicate, List.length_append, List.length_cons, List.length_nil] <;> omega) | (simp only [all_nv]; done) | rfl)) only [↓stPre, stOwn, stNat, stList, stProp, Nat.reduceEqDiff, Nat.reduceLT, Nat.reduceLeDiff, ↓reduceIte, eq_self, true_implies, false_implies, ite_true, ite_false, if_true, if_false, ne_eq, e1, e5, e6, eds, hkq, h0]
  · rintro s H1 ⟨e1, e5, e6, eds, rfl⟩
    simp (disch := (first | omega | (simp only [List.length_map]; omega) | (simp only [List.length_map, List.length_set, List.length_replicate, List.length_append, List.length_cons, List.length_nil] <;> omega) | (simp only [all_nv]; done) | rfl)) only [↓stPre, stOwn, stNat, stList, stProp, Nat.reduceEqDiff, Nat.reduceLT, Nat.reduceLeDiff, ↓reduceIte, eq_self, true_implies, false_implies, ite_true, ite_false, if_true, if_false, ne_eq, e1, e5, e6, eds, hgq, hg0]
    refine FZ.use (order_spec F (hb2 _) hgq hfac) ?_
    simp (disch := (first | omega | (simp only [List.length_map]; omega) | (simp only [List.length_map, List.length_set, List.length_replicate, List.length_append, List.length_cons, List.length_nil] <;> omega) | (simp only [all_nv]; done) | rfl)) only [↓stPre, stOwn, stNat, stList, stProp, Nat.reduceEqDiff, Nat.reduceLT, Nat.reduceLeDiff, ↓reduceIte, eq_self, true_implies, false_implies, ite_true, ite_false, if_true, if_false, ne_eq, e1, e5, e6, eds]
    refine FZ.use (size_spec F.p2 F.e1 F.e6 rfl F.q) ?_
    simp (disch := (first | omega | (simp only [List.length_map]; omega) | (simp only [List.length_map, List.length_set, List.length_replicate, List.length_append, List.length_cons, List.length_nil] <;> omega) | (simp only [all_nv]; done) | rfl)) only [↓stPre, stOwn, stNat, stList, stProp, Nat.reduceEqDiff, Nat.reduceLT, Nat.reduceLeDiff, ↓reduceIte, eq_self, true_implies, false_implies, ite_true, ite_false, if_true, if_false, ne_eq, e1, e5, e6, eds, h1, xf33]
    simp [ground, scal]
end Go.Sim

/- The plain law of the fields, part 5: orders. -/
namespace Go.Sim

/-- Orders, by exponents. -/
def oI (N k f : Nat) : Nat → Nat → Nat
  | 0, n => n
  | u + 1, n => if n % f = 0 ∧ (n / f * k) % N = 0 then oI N k f u (n / f) else n
def oE (N : Nat) (fs : List Nat) (k : Nat) : Nat := fs.foldl (fun n f => oI N k f n n) N
def ordB (N g : Nat) (fs E : List Nat) : Bool :=
  (List.range N).all fun k => Nat.ble 1 (oE N fs k) && Nat.ble (oE N fs k) N && Nat.beq (N % oE N fs k) 0 && Nat.beq ((oE N fs k * k) % N) 0 &&
    (List.range (oE N fs k)).all (fun i => Nat.beq i 0 || !Nat.beq ((i * k) % N) 0) && (!Nat.beq k (1 % N) || Nat.beq (oE N fs k) N) && (!Nat.blt (E.getD k 0) g || !Nat.beq (oE N fs k) N)

structure FP (p e : Nat) (m : List Nat) (g : Nat) (E fs : List Nat) : Prop extends FT p e m g E where
  fac : FacOk (p ^ e - 1) fs
  od : ordB (p ^ e - 1) g fs E = true

section
variable {p e : Nat} {m : List Nat} {g : Nat} {E fs : List Nat} (F : FP p e m g E fs)
include F
theorem FP.at (k : Nat) (hk : k < p ^ e - 1) : 1 ≤ oE (p ^ e - 1) fs k ∧ oE (p ^ e - 1) fs k ≤ p ^ e - 1 ∧ (p ^ e - 1) % oE (p ^ e - 1) fs k = 0 ∧ (oE (p ^ e - 1) fs k * k) % (p ^ e - 1) = 0 ∧
    (∀ i, i < oE (p ^ e - 1) fs k → i ≠ 0 → (i * k) % (p ^ e - 1) ≠ 0) ∧ (k = 1 % (p ^ e - 1) → oE (p ^ e - 1) fs k = p ^ e - 1) ∧ (E.getD k 0 < g → oE (p ^ e - 1) fs k ≠ p ^ e - 1) := by
  have h := List.all_eq_true.1 F.od k (List.mem_range.2 hk)
  simp only [Bool.and_eq_true, Bool.or_eq_true, List.all_eq_true, List.mem_range, Bool.not_eq_true'] at h
  obtain ⟨⟨⟨⟨⟨⟨h1, h2⟩, h3⟩, h4⟩, h5⟩, h6⟩, h7⟩ := h
  refine ⟨Nat.le_of_ble_eq_true h1, Nat.le_of_ble_eq_true h2, Nat.eq_of_beq_eq_true h3, Nat.eq_of_beq_eq_true h4, fun i hi h0 hc => ?_, fun hk => ?_, fun hlt hc => ?_⟩
  · rcases h5 i hi with h | h
    · exact h0 (Nat.eq_of_beq_eq_true h)
    · rw [hc] at h; cases h
  · rcases h6 with h | h
    · rw [hk] at h; simp at h
    · exact Nat.eq_of_beq_eq_true h
  · rcases h7 with h | h
    · have : Nat.blt (E.getD k 0) g = true := Nat.ble_eq_true_of_le hlt
      rw [this] at h; cases h
    · rw [hc] at h; simp at h
theorem FP.ordI_eq (k f : Nat) : ∀ u n, ordI p e m (pw p e m g k) f u n = oI (p ^ e - 1) k f u n
  | 0, _ => rfl
  | u + 1, n => by
    have hg := F.exs.2.2.2
    have hi : powF p e m (pw p e m g k) (n / f) = 1 ↔ (n / f * k) % (p ^ e - 1) = 0 := by
      rw [F.powF _ _ (F.pw_lt _ _), ← F.pw_mul g hg]; exact F.pw_g_one _
    rw [ordI, oI, FP.ordI_eq k f u]
    simp only [hi]
theorem FP.ordF_eq (k : Nat) : ordF p e m fs (pw p e m g k) = oE (p ^ e - 1) fs k := by
  have key : ∀ (l : List Nat) n, l.foldl (fun n f => ordI p e m (pw p e m g k) f n n) n = l.foldl (fun n f => oI (p ^ e - 1) k f n n) n := by
    intro l
    induction l with
    | nil => intro n; rfl
    | cons f l ih => intro n; rw [List.foldl_cons, List.foldl_cons, F.ordI_eq, ih]
  exact key fs _
theorem FP.ord (a : Nat) (ha : a < p ^ e) (h0 : a ≠ 0) : 1 ≤ ordV p e m fs a ∧ ordV p e m fs a ≤ p ^ e - 1 ∧ (p ^ e - 1) % ordV p e m fs a = 0 ∧ pw p e m a (ordV p e m fs a) = 1 ∧ ∀ i, i < ordV p e m fs a → i ≠ 0 → pw p e m a i ≠ 1 := by
  obtain ⟨k, hk, rfl⟩ := F.log a ha h0
  have hg := F.exs.2.2.2
  rw [ordV, if_neg h0, F.ordF_eq]
  obtain ⟨h1, h2, h3, h4, h5, _, _⟩ := F.at k hk
  refine ⟨h1, h2, h3, ?_, fun i hi hi0 => ?_⟩
  · rw [← F.pw_mul g hg, F.pw_g_one]; exact h4
  · rw [← F.pw_mul g hg, Ne, F.pw_g_one]; exact h5 i hi hi0
theorem FP.g_pos : 0 < g := by
  have h := F.pw_g_ne 1
  rw [F.pw_one g F.exs.2.2.2] at h
  omega
theorem FP.ord_g : ordV p e m fs g = p ^ e - 1 := by
  have hq2 := F.q2
  have hg := F.exs.2.2.2
  have h0 := F.g_pos
  have hk : 1 % (p ^ e - 1) < p ^ e - 1 := Nat.mod_lt _ (by omega)
  have h1 : g = pw p e m g (1 % (p ^ e - 1)) := by
    rw [← F.pw_mod g hg (by omega), F.pw_one g hg]
  rw [ordV, if_neg (by omega)]
  have h2 := F.ordF_eq (1 % (p ^ e - 1))
  rw [← h1] at h2
  rw [h2]
  exact (F.at _ hk).2.2.2.2.2.1 rfl
theorem FP.ord_lt (a : Nat) (ha : 0 < a) (hag : a < g) : ordV p e m fs a ≠ p ^ e - 1 := by
  have hg := F.exs.2.2.2
  obtain ⟨k, hk, rfl⟩ := F.log a (by omega) (by omega)
  rw [ordV, if_neg (by omega), F.ordF_eq]
  refine (F.at k hk).2.2.2.2.2.2 ?_
  rwa [F.pw_g, Nat.mod_eq_of_lt hk] at hag
theorem FP.inj (i j : Nat) (hij : i < j) (hj : j < p ^ e - 1) : pw p e m g i ≠ pw p e m g j := by
  intro h
  have hg := F.exs.2.2.2
  have hq2 := F.q2
  -- both times the power that leads i to the whole
  have h1 : pw p e m g (p ^ e - 1 - i + i) = 1 := by rw [show p ^ e - 1 - i + i = p ^ e - 1 by omega, F.pw_g_one, Nat.mod_self]
  have h2 : pw p e m g (p ^ e - 1 - i + j) = 1 := by rw [F.pw_add g hg, ← h, ← F.pw_add g hg, h1]
  rw [F.pw_g_one] at h2
  have h3 : p ^ e - 1 - i + j = (j - i) + (p ^ e - 1) := by omega
  rw [h3, Nat.add_mod_right, Nat.mod_eq_of_lt (by omega)] at h2
  omega
/-- Any exponent. -/
theorem FP.powL_int (x : Nat) (n : Int) (hx : x < p ^ e) (h0 : x ≠ 0) : powL p e m x n = ((pw p e m x (n % ((p ^ e - 1 : Nat) : Int)).toNat : Nat) : Int) := by
  have hq2 := F.q2
  have key : powZ p e m x n = (pw p e m x (n % ((p ^ e - 1 : Nat) : Int)).toNat, 0) := by
    unfold powZ
    by_cases hn : n = 0
    · subst hn; simp [pw]
    · rw [if_neg hn, if_neg h0]
      have h1 : ((p ^ e : Nat) - 1 : Int) = ((p ^ e - 1 : Nat) : Int) := by omega
      rw [h1, F.powF _ _ hx]
  unfold powL
  rw [key]
  rfl
theorem FP.pw_int (x : Nat) (a b : Int) (hx : x < p ^ e) (h0 : x ≠ 0) : mulF p e m (pw p e m x (a % ((p ^ e - 1 : Nat) : Int)).toNat) (pw p e m x (b % ((p ^ e - 1 : Nat) : Int)).toNat) = pw p e m x ((a + b) % ((p ^ e - 1 : Nat) : Int)).toNat := by
  have hq2 := F.q2
  have hN : ((p ^ e - 1 : Nat) : Int) ≠ 0 := by omega
  have ha := Int.emod_nonneg a hN
  have hb := Int.emod_nonneg b hN
  rw [← F.pw_add x hx, F.pw_mod x hx h0]
  congr 1
  have h1 : (a + b) % ((p ^ e - 1 : Nat) : Int) = (a % ((p ^ e - 1 : Nat) : Int) + b % ((p ^ e - 1 : Nat) : Int)) % ((p ^ e - 1 : Nat) : Int) := by rw [Int.emod_add_emod, Int.add_emod_emod]
  rw [h1]
  generalize a % ((p ^ e - 1 : Nat) : Int) = u at *
  generalize b % ((p ^ e - 1 : Nat) : Int) = v at *
  obtain ⟨u, rfl⟩ := Int.eq_ofNat_of_zero_le ha
  obtain ⟨v, rfl⟩ := Int.eq_ofNat_of_zero_le hb
  have h2 : ((u : Int) + v) % ((p ^ e - 1 : Nat) : Int) = (((u + v) % (p ^ e - 1) : Nat) : Int) := by rw [Int.natCast_emod, Int.natCast_add]
  rw [h2, Int.toNat_natCast, Int.toNat_natCast, Int.toNat_natCast]
theorem FP.pw_q1 (a : Nat) (ha : a < p ^ e) : pw p e m a (p ^ e) = a := by
  have hq2 := F.q2
  by_cases h0 : a = 0
  · subst h0
    obtain ⟨k, hk⟩ : ∃ k, p ^ e = k + 1 := ⟨p ^ e - 1, by omega⟩
    have : pw p e m 0 (p ^ e) = mulF p e m 0 (pw p e m 0 k) := by rw [hk, pw]
    rw [this]
    exact mul_zeroF F.toFd _ _ (.inl rfl)
  · have h := F.pw_q a ha h0
    have h2 : pw p e m a (p ^ e) = mulF p e m a (pw p e m a (p ^ e - 1)) := by
      have : p ^ e = (p ^ e - 1) + 1 := by omega
      rw [show pw p e m a (p ^ e) = pw p e m a ((p ^ e - 1) + 1) by rw [← this], pw]
    rw [h2, h, F.mul_one a ha]
theorem FP.powL_nat (x n : Nat) (hx : x < p ^ e) : powL p e m x (n : Int) = ((pw p e m x n : Nat) : Int) := by
  have hq2 := F.q2
  have key : powZ p e m x (n : Int) = (pw p e m x n, 0) := by
    unfold powZ
    by_cases hn : n = 0
    · subst hn; rfl
    · rw [if_neg (by omega)]
      by_cases h0 : x = 0
      · subst h0
        rw [if_pos rfl, if_neg (by omega)]; obtain ⟨k, rfl⟩ : ∃ k, n = k + 1 := ⟨n - 1, by omega⟩; rw [pw, mul_zeroF F.toFd _ _ (.inl rfl)]
      · rw [if_neg h0]
        have : ((n : Int) % ((p ^ e : Nat) - 1 : Int)).toNat = n % (p ^ e - 1) := by
          have h1 : ((p ^ e : Nat) - 1 : Int) = ((p ^ e - 1 : Nat) : Int) := by omega
          rw [h1, ← Int.natCast_emod]
          exact Int.toNat_natCast _
        rw [this, F.powF _ _ hx, ← F.pw_mod x hx h0]
  unfold powL
  rw [key]
  rfl
end
end Go.Sim
