/- Part of the proof: RefB, MatD, MatE, SimR2. -/
import Derived.Test.YtaepmmdbhikjlaaRefA
import Derived.Test.YtaepmmdbhikjlaaFieldK
import Derived.Test.YtaepmmdbhikjlaaFieldL
import Derived.Test.YtaepmmdbhikjlaaMatC
import Derived.Test.YtaepmmdbhikjlaaFieldX
import Derived.ChangeShapes
set_option linter.unusedSimpArgs false
namespace Go.Sim
open Go Go.Proofs

theorem soundF_spec {p e b n c : Nat} {H : AH} (hp : p ≤ 100) (he : e ≤ 100) (hn : n ≤ 100) (h : ¬ (2 ≤ p ∧ 1 ≤ e ∧ e ≤ 6 ∧ n = e ∧ p ^ e ≤ 64)) : FN Try.prog 50 [fldv p e b n c] H (fun v H' => v = .bool false ∧ H' = H) := by
  refine FN.gc0 (FN.of_compZ mixed xf50_ok (Nat.le_of_ble_eq_true rfl) ?_)
  by_cases n1 : p < 2
  · simp (disch := (first | omega | (simp only [List.length_map]; omega) | (simp only [List.length_map, List.length_set, List.length_replicate, List.length_append, List.length_cons, List.length_nil] <;> omega) | (simp only [all_nv]; done) | rfl)) only [↓stPre, stOwn, stNat, stList, stProp, Nat.reduceEqDiff, Nat.reduceLT, Nat.reduceLeDiff, ↓reduceIte, eq_self, true_implies, false_implies, ite_true, ite_false, if_true, if_false, ne_eq, xf50, n1]
    simp [ground, scal]
  by_cases n2 : e < 1
  · simp (disch := (first | omega | (simp only [List.length_map]; omega) | (simp only [List.length_map, List.length_set, List.length_replicate, List.length_append, List.length_cons, List.length_nil] <;> omega) | (simp only [all_nv]; done) | rfl)) only [↓stPre, stOwn, stNat, stList, stProp, Nat.reduceEqDiff, Nat.reduceLT, Nat.reduceLeDiff, ↓reduceIte, eq_self, true_implies, false_implies, ite_true, ite_false, if_true, if_false, ne_eq, xf50, n1, n2]
    simp [ground, scal]
  by_cases n3 : 6 < e
  · simp (disch := (first | omega | (simp only [List.length_map]; omega) | (simp only [List.length_map, List.length_set, List.length_replicate, List.length_append, List.length_cons, List.length_nil] <;> omega) | (simp only [all_nv]; done) | rfl)) only [↓stPre, stOwn, stNat, stList, stProp, Nat.reduceEqDiff, Nat.reduceLT, Nat.reduceLeDiff, ↓reduceIte, eq_self, true_implies, false_implies, ite_true, ite_false, if_true, if_false, ne_eq, xf50, n1, n2, n3]
    simp [ground, scal]
  by_cases n4 : n = e
  · have hq : 64 < p ^ e := by
      rcases Nat.lt_or_ge 64 (p ^ e) with h1 | h1
      · exact h1
      · exact absurd ⟨by omega, by omega, by omega, n4, h1⟩ h
    obtain ⟨k0, hk0, hlo⟩ := least (fun k => 64 < p ^ (k + 1)) (e - 1) (by show 64 < p ^ (e - 1 + 1); rwa [show e - 1 + 1 = e by omega])
    have hk0e : k0 < e := by
      rcases Nat.lt_or_ge k0 e with h1 | h1
      · exact h1
      · exact absurd (show 64 < p ^ (e - 1 + 1) by rwa [show e - 1 + 1 = e by omega]) (hlo (e - 1) (by omega))
    have hsm : ∀ k, k ≤ k0 → p ^ k ≤ 64 := fun k hk => by
      cases k with
      | zero => simp
      | succ k => exact Nat.le_of_not_lt (hlo k (by omega))
    have hp0 : 0 < p := by omega
    simp (disch := (first | omega | (simp only [List.length_map]; omega) | (simp only [List.length_map, List.length_set, List.length_replicate, List.length_append, List.length_cons, List.length_nil] <;> omega) | (simp only [all_nv]; done) | rfl)) only [↓stPre, stOwn, stNat, stList, stProp, Nat.reduceEqDiff, Nat.reduceLT, Nat.reduceLeDiff, ↓reduceIte, eq_self, true_implies, false_implies, ite_true, ite_false, if_true, if_false, ne_eq, xf50, n1, n2, n3, n4]
    refine LZ.nat k0 (fun k s H' => s.env 1 = .pointer (some ⟨H.length, 0, none⟩) ∧ s.env 3 = nv (p ^ k) ∧ s.env 26 = nv e ∧ s.env 27 = nv k ∧ s.ds = [] ∧
       H' = H ++ [.cells [nv p, nv e, .slice (some ⟨b, 0, none⟩) e c] 26 none false]) ?_ ?_ ?_
    · simp (disch := (first | omega | (simp only [List.length_map]; omega) | (simp only [List.length_map, List.length_set, List.length_replicate, List.length_append, List.length_cons, List.length_nil] <;> omega) | (simp only [all_nv]; done) | rfl)) only [↓stPre, stOwn, stNat, stList, stProp, Nat.reduceEqDiff, Nat.reduceLT, Nat.reduceLeDiff, ↓reduceIte, eq_self, true_implies, false_implies, ite_true, ite_false, if_true, if_false, ne_eq]
      simp
    · rintro k s H1 hk ⟨e1, e3, e26, e27, eds, rfl⟩
      have h2 : p ^ k * p ≤ 64 := by rw [← Nat.pow_succ]; exact hsm (k + 1) (by omega)
      have h1 : ¬ 64 / p < p ^ k := by
        rw [Nat.not_lt, Nat.le_div_iff_mul_le hp0]; exact h2
      have hke : k < e := by omega
      simp (disch := (first | omega | (simp only [List.length_map]; omega) | (simp only [List.length_map, List.length_set, List.length_replicate, List.length_append, List.length_cons, List.length_nil] <;> omega) | (simp only [all_nv]; done) | rfl)) only [↓stPre, stOwn, stNat, stList, stProp, Nat.reduceEqDiff, Nat.reduceLT, Nat.reduceLeDiff, ↓reduceIte, eq_self, true_implies, false_implies, ite_true, ite_false, if_true, if_false, ne_eq, e1, e3, e26, e27, eds, hke, h1]
      simp [Nat.pow_succ]
    · rintro s H1 ⟨e1, e3, e26, e27, eds, rfl⟩
      have h1 : 64 / p < p ^ k0 := by
        rw [Nat.div_lt_iff_lt_mul hp0, ← Nat.pow_succ]; exact hk0
      simp (disch := (first | omega | (simp only [List.length_map]; omega) | (simp only [List.length_map, List.length_set, List.length_replicate, List.length_append, List.length_cons, List.length_nil] <;> omega) | (simp only [all_nv]; done) | rfl)) only [↓stPre, stOwn, stNat, stList, stProp, Nat.reduceEqDiff, Nat.reduceLT, Nat.reduceLeDiff, ↓reduceIte, eq_self, true_implies, false_implies, ite_true, ite_false, if_true, if_false, ne_eq, e1, e3, e26, e27, eds, hk0e, h1, xf50]
      simp [ground, scal]
  · simp (disch := (first | omega | (simp only [List.length_map]; omega) | (simp only [List.length_map, List.length_set, List.length_replicate, List.length_append, List.length_cons, List.length_nil] <;> omega) | (simp only [all_nv]; done) | rfl)) only [↓stPre, stOwn, stNat, stList, stProp, Nat.reduceEqDiff, Nat.reduceLT, Nat.reduceLeDiff, ↓reduceIte, eq_self, true_implies, false_implies, ite_true, ite_false, if_true, if_false, ne_eq, xf50, n1, n2, n3, n4]
    simp [ground, scal]

theorem neq_at : ∀ {X Y : List Nat}, X.length = Y.length → X ≠ Y → ∃ i, i < X.length ∧ X.getD i 0 ≠ Y.getD i 0
  | [], [], _, h => absurd rfl h
  | x :: X, y :: Y, hl, h => by
    by_cases hxy : x = y
    · obtain ⟨i, h1, h2⟩ := neq_at (X := X) (Y := Y) (by simpa using hl) (fun hc => h (by rw [hxy, hc]))
      exact ⟨i + 1, by simpa using h1, by simpa using h2⟩
    · exact ⟨0, by simp, by simpa using hxy⟩
  | [], _ :: _, hl, _ => by simp at hl
  | _ :: _, [], hl, _ => by simp at hl
theorem equal_spec {b1 b2 n1 n2 c1 c2 : Nat} {X Y : List Nat} {H : AH} {el1 el2 : TypeId} {op1 op2 : Option Nat} {r1 r2 : Bool} (h1 : H[b1]? = some (.cells (X.map nv) el1 op1 r1)) (h2 : H[b2]? = some (.cells (Y.map nv) el2 op2 r2)) (hn1 : n1 = X.length) (hn2 : n2 = Y.length) (hl : n1 ≤ 100) (hl2 : n2 ≤ 100) :
    FN Try.prog 51 [.slice (some ⟨b1, 0, none⟩) n1 c1, .slice (some ⟨b2, 0, none⟩) n2 c2] H (fun v H' => v = .bool (decide (X = Y)) ∧ H' = H) := by
  refine FN.gc0 (FN.of_compZ mixed xf51_ok (Nat.le_of_ble_eq_true rfl) ?_)
  by_cases hln : n1 = n2
  · by_cases hXY : X = Y
    · simp (disch := (first | omega | (simp only [List.length_map]; omega) | (simp only [List.length_map, List.length_set, List.length_replicate, List.length_append, List.length_cons, List.length_nil] <;> omega) | (simp only [all_nv]; done) | rfl)) only [↓stPre, stOwn, stNat, stList, stProp, Nat.reduceEqDiff, Nat.reduceLT, Nat.reduceLeDiff, ↓reduceIte, eq_self, true_implies, false_implies, ite_true, ite_false, if_true, if_false, ne_eq, xf51, hln]
      refine LZ.nat n2 (fun k s H' => s.env 0 = .slice (some ⟨b1, 0, none⟩) n2 c1 ∧ s.env 1 = .slice (some ⟨b2, 0, none⟩) n2 c2 ∧ s.env 12 = nv n2 ∧ s.env 13 = nv k ∧ s.ds = [] ∧ H' = H) ?_ ?_ ?_
      · simp (disch := (first | omega | (simp only [List.length_map]; omega) | (simp only [List.length_map, List.length_set, List.length_replicate, List.length_append, List.length_cons, List.length_nil] <;> omega) | (simp only [all_nv]; done) | rfl)) only [↓stPre, stOwn, stNat, stList, stProp, Nat.reduceEqDiff, Nat.reduceLT, Nat.reduceLeDiff, ↓reduceIte, eq_self, true_implies, false_implies, ite_true, ite_false, if_true, if_false, ne_eq]
        simp [hln]
      · rintro k s H1 hk ⟨e0, e1, e12, e13, eds, rfl⟩
        have hg : X.getD k 0 = Y.getD k 0 := by rw [hXY]
        simp (disch := (first | omega | (simp only [List.length_map]; omega) | (simp only [List.length_map, List.length_set, List.length_replicate, List.length_append, List.length_cons, List.length_nil] <;> omega) | (simp only [all_nv]; done) | rfl)) only [↓stPre, stOwn, stNat, stList, stProp, Nat.reduceEqDiff, Nat.reduceLT, Nat.reduceLeDiff, ↓reduceIte, eq_self, true_implies, false_implies, ite_true, ite_false, if_true, if_false, ne_eq, e0, e1, e12, e13, eds, hk, h1, h2, hg]
      · rintro s H1 ⟨e0, e1, e12, e13, eds, rfl⟩
        simp (disch := (first | omega | (simp only [List.length_map]; omega) | (simp only [List.length_map, List.length_set, List.length_replicate, List.length_append, List.length_cons, List.length_nil] <;> omega) | (simp only [all_nv]; done) | rfl)) only [↓stPre, stOwn, stNat, stList, stProp, Nat.reduceEqDiff, Nat.reduceLT, Nat.reduceLeDiff, ↓reduceIte, eq_self, true_implies, false_implies, ite_true, ite_false, if_true, if_false, ne_eq, e0, e1, e12, e13, eds, xf51]
        simp [ground, scal, hXY]
    · obtain ⟨i0, hi0, hne0⟩ := neq_at (by omega) hXY
      obtain ⟨i, ⟨hi, hne⟩, hlo⟩ := least (fun i => i < X.length ∧ X.getD i 0 ≠ Y.getD i 0) i0 ⟨hi0, hne0⟩
      simp (disch := (first | omega | (simp only [List.length_map]; omega) | (simp only [List.length_map, List.length_set, List.length_replicate, List.length_append, List.length_cons, List.length_nil] <;> omega) | (simp only [all_nv]; done) | rfl)) only [↓stPre, stOwn, stNat, stList, stProp, Nat.reduceEqDiff, Nat.reduceLT, Nat.reduceLeDiff, ↓reduceIte, eq_self, true_implies, false_implies, ite_true, ite_false, if_true, if_false, ne_eq, xf51, hln]
      refine LZ.nat i (fun k s H' => s.env 0 = .slice (some ⟨b1, 0, none⟩) n2 c1 ∧ s.env 1 = .slice (some ⟨b2, 0, none⟩) n2 c2 ∧ s.env 12 = nv n2 ∧ s.env 13 = nv k ∧ s.ds = [] ∧ H' = H) ?_ ?_ ?_
      · simp (disch := (first | omega | (simp only [List.length_map]; omega) | (simp only [List.length_map, List.length_set, List.length_replicate, List.length_append, List.length_cons, List.length_nil] <;> omega) | (simp only [all_nv]; done) | rfl)) only [↓stPre, stOwn, stNat, stList, stProp, Nat.reduceEqDiff, Nat.reduceLT, Nat.reduceLeDiff, ↓reduceIte, eq_self, true_implies, false_implies, ite_true, ite_false, if_true, if_false, ne_eq]
        simp [hln]
      · rintro k s H1 hk ⟨e0, e1, e12, e13, eds, rfl⟩
        have hg : X.getD k 0 = Y.getD k 0 := by
          have := hlo k hk
          rcases Nat.decEq (X.getD k 0) (Y.getD k 0) with h | h
          · exact absurd ⟨by omega, h⟩ this
          · exact h
        have hk2 : k < n2 := by omega
        simp (disch := (first | omega | (simp only [List.length_map]; omega) | (simp only [List.length_map, List.length_set, List.length_replicate, List.length_append, List.length_cons, List.length_nil] <;> omega) | (simp only [all_nv]; done) | rfl)) only [↓stPre, stOwn, stNat, stList, stProp, Nat.reduceEqDiff, Nat.reduceLT, Nat.reduceLeDiff, ↓reduceIte, eq_self, true_implies, false_implies, ite_true, ite_false, if_true, if_false, ne_eq, e0, e1, e12, e13, eds, hk2, h1, h2, hg]
      · rintro s H1 ⟨e0, e1, e12, e13, eds, rfl⟩
        have hk2 : i < n2 := by omega
        simp (disch := (first | omega | (simp only [List.length_map]; omega) | (simp only [List.length_map, List.length_set, List.length_replicate, List.length_append, List.length_cons, List.length_nil] <;> omega) | (simp only [all_nv]; done) | rfl)) only [↓stPre, stOwn, stNat, stList, stProp, Nat.reduceEqDiff, Nat.reduceLT, Nat.reduceLeDiff, ↓reduceIte, eq_self, true_implies, false_implies, ite_true, ite_false, if_true, if_false, ne_eq, e0, e1, e12, e13, eds, hk2, h1, h2, hne, xf51]
        simp [ground, scal, hXY]
  · have hXY : X ≠ Y := fun h => hln (by rw [hn1, hn2, h])
    simp (disch := (first | omega | (simp only [List.length_map]; omega) | (simp only [List.length_map, List.length_set, List.length_replicate, List.length_append, List.length_cons, List.length_nil] <;> omega) | (simp only [all_nv]; done) | rfl)) only [↓stPre, stOwn, stNat, stList, stProp, Nat.reduceEqDiff, Nat.reduceLT, Nat.reduceLeDiff, ↓reduceIte, eq_self, true_implies, false_implies, ite_true, ite_false, if_true, if_false, ne_eq, xf51, hln]
    simp [ground, scal, hXY]

/-- What Make answers at each size. -/
def mkT : List (Option (Nat × Nat × List Nat)) := [none, none, some (2, 1, [0]), some (3, 1, [0]), some (2, 2, [1, 1]), some (5, 1, [0]), none, some (7, 1, [0]), some (2, 3, [1, 1, 0]), some (3, 2, [1, 0]), none, some (11, 1, [0]), none, some (13, 1, [0]), none, none, some (2, 4, [1, 1, 0, 0]), some (17, 1, [0]), none, some (19, 1, [0]), none, none, none, some (23, 1, [0]), none, some (5, 2, [2, 0]), none, some (3, 3, [1, 2, 0]), none, some (29, 1, [0]), none, some (31, 1, [0]), some (2, 5, [1, 0, 1, 0, 0]), none, none, none, none, some (37, 1, [0]), none, none, none, some (41, 1, [0]), none, some (43, 1, [0]), none, none, none, some (47, 1, [0]), none, some (7, 2, [1, 0]), none, none, none, some (53, 1, [0]), none, none, none, none, none, some (59, 1, [0]), none, some (61, 1, [0]), none, none, some (2, 6, [1, 1, 0, 0, 0, 0])]
def mkR : Option (Nat × Nat × List Nat) → KRes
  | some (p, e, m) => .fld p e e e 0 (.cells (m.map nv) 3 (some 1) false)
  | none => .val (.tuple [.agg [nv 0, nv 0, .slice none 0 0].toArray, nv 1].toArray)
theorem make10 : ∀ q, q < 65 → KnownOk Try.prog 10 [nv q] (mkR (mkT.getD q none))
  | 0, _ => kMake0_ok _ (List.mem_of_getElem? (i := 0) rfl)
  | 1, _ => kMake0_ok _ (List.mem_of_getElem? (i := 1) rfl)
  | 2, _ => kMake0_ok _ (List.mem_of_getElem? (i := 2) rfl)
  | 3, _ => kMake0_ok _ (List.mem_of_getElem? (i := 3) rfl)
  | 4, _ => kMake0_ok _ (List.mem_of_getElem? (i := 4) rfl)
  | 5, _ => kMake0_ok _ (List.mem_of_getElem? (i := 5) rfl)
  | 6, _ => kMake0_ok _ (List.mem_of_getElem? (i := 6) rfl)
  | 7, _ => kMake0_ok _ (List.mem_of_getElem? (i := 7) rfl)
  | 8, _ => kMake0_ok _ (List.mem_of_getElem? (i := 8) rfl)
  | 9, _ => kMake0_ok _ (List.mem_of_getElem? (i := 9) rfl)
  | 10, _ => kMake0_ok _ (List.mem_of_getElem? (i := 10) rfl)
  | 11, _ => kMake0_ok _ (List.mem_of_getElem? (i := 11) rfl)
  | 12, _ => kMake0_ok _ (List.mem_of_getElem? (i := 12) rfl)
  | 13, _ => kMake0_ok _ (List.mem_of_getElem? (i := 13) rfl)
  | 14, _ => kMake0_ok _ (List.mem_of_getElem? (i := 14) rfl)
  | 15, _ => kMake0_ok _ (List.mem_of_getElem? (i := 15) rfl)
  | 16, _ => kMake0_ok _ (List.mem_of_getElem? (i := 16) rfl)
  | 17, _ => kMake0_ok _ (List.mem_of_getElem? (i := 17) rfl)
  | 18, _ => kMake0_ok _ (List.mem_of_getElem? (i := 18) rfl)
  | 19, _ => kMake0_ok _ (List.mem_of_getElem? (i := 19) rfl)
  | 20, _ => kMake1_ok _ (List.mem_of_getElem? (i := 0) rfl)
  | 21, _ => kMake1_ok _ (List.mem_of_getElem? (i := 1) rfl)
  | 22, _ => kMake1_ok _ (List.mem_of_getElem? (i := 2) rfl)
  | 23, _ => kMake1_ok _ (List.mem_of_getElem? (i := 3) rfl)
  | 24, _ => kMake1_ok _ (List.mem_of_getElem? (i := 4) rfl)
  | 25, _ => kMake1_ok _ (List.mem_of_getElem? (i := 5) rfl)
  | 26, _ => kMake1_ok _ (List.mem_of_getElem? (i := 6) rfl)
  | 27, _ => kMake1_ok _ (List.mem_of_getElem? (i := 7) rfl)
  | 28, _ => kMake1_ok _ (List.mem_of_getElem? (i := 8) rfl)
  | 29, _ => kMake1_ok _ (List.mem_of_getElem? (i := 9) rfl)
  | 30, _ => kMake1_ok _ (List.mem_of_getElem? (i := 10) rfl)
  | 31, _ => kMake1_ok _ (List.mem_of_getElem? (i := 11) rfl)
  | 32, _ => kMake1_ok _ (List.mem_of_getElem? (i := 12) rfl)
  | 33, _ => kMake1_ok _ (List.mem_of_getElem? (i := 13) rfl)
  | 34, _ => kMake1_ok _ (List.mem_of_getElem? (i := 14) rfl)
  | 35, _ => kMake1_ok _ (List.mem_of_getElem? (i := 15) rfl)
  | 36, _ => kMake1_ok _ (List.mem_of_getElem? (i := 16) rfl)
  | 37, _ => kMake1_ok _ (List.mem_of_getElem? (i := 17) rfl)
  | 38, _ => kMake1_ok _ (List.mem_of_getElem? (i := 18) rfl)
  | 39, _ => kMake1_ok _ (List.mem_of_getElem? (i := 19) rfl)
  | 40, _ => kMake2_ok _ (List.mem_of_getElem? (i := 0) rfl)
  | 41, _ => kMake2_ok _ (List.mem_of_getElem? (i := 1) rfl)
  | 42, _ => kMake2_ok _ (List.mem_of_getElem? (i := 2) rfl)
  | 43, _ => kMake2_ok _ (List.mem_of_getElem? (i := 3) rfl)
  | 44, _ => kMake2_ok _ (List.mem_of_getElem? (i := 4) rfl)
  | 45, _ => kMake2_ok _ (List.mem_of_getElem? (i := 5) rfl)
  | 46, _ => kMake2_ok _ (List.mem_of_getElem? (i := 6) rfl)
  | 47, _ => kMake2_ok _ (List.mem_of_getElem? (i := 7) rfl)
  | 48, _ => kMake2_ok _ (List.mem_of_getElem? (i := 8) rfl)
  | 49, _ => kMake2_ok _ (List.mem_of_getElem? (i := 9) rfl)
  | 50, _ => kMake2_ok _ (List.mem_of_getElem? (i := 10) rfl)
  | 51, _ => kMake2_ok _ (List.mem_of_getElem? (i := 11) rfl)
  | 52, _ => kMake2_ok _ (List.mem_of_getElem? (i := 12) rfl)
  | 53, _ => kMake2_ok _ (List.mem_of_getElem? (i := 13) rfl)
  | 54, _ => kMake2_ok _ (List.mem_of_getElem? (i := 14) rfl)
  | 55, _ => kMake2_ok _ (List.mem_of_getElem? (i := 15) rfl)
  | 56, _ => kMake2_ok _ (List.mem_of_getElem? (i := 16) rfl)
  | 57, _ => kMake2_ok _ (List.mem_of_getElem? (i := 17) rfl)
  | 58, _ => kMake2_ok _ (List.mem_of_getElem? (i := 18) rfl)
  | 59, _ => kMake2_ok _ (List.mem_of_getElem? (i := 19) rfl)
  | 60, _ => kMake3_ok _ (List.mem_of_getElem? (i := 0) rfl)
  | 61, _ => kMake3_ok _ (List.mem_of_getElem? (i := 1) rfl)
  | 62, _ => kMake3_ok _ (List.mem_of_getElem? (i := 2) rfl)
  | 63, _ => kMake3_ok _ (List.mem_of_getElem? (i := 3) rfl)
  | 64, _ => kMake3_ok _ (List.mem_of_getElem? (i := 4) rfl)
  | n + 65, h => absurd h (by omega)
theorem mkT_len : ∀ q, q < 65 → ∀ x, mkT.getD q none = some x → x.2.2.length = x.2.1 ∧ x.2.1 ≤ 6 ∧ x.1 ≤ 64 ∧ x.1 ≠ 0 := by
  intro q hq x hx
  have h : (List.range 65).all (fun q => match mkT.getD q none with | some x => Nat.beq x.2.2.length x.2.1 && Nat.ble x.2.1 6 && Nat.ble x.1 64 && !Nat.beq x.1 0 | none => true) = true := by decide +kernel
  have := List.all_eq_true.1 h q (List.mem_range.2 hq)
  rw [hx] at this
  simp only [Bool.and_eq_true, Bool.not_eq_true'] at this
  obtain ⟨⟨⟨h1, h2⟩, h3⟩, h4⟩ := this
  exact ⟨Nat.eq_of_beq_eq_true h1, Nat.le_of_ble_eq_true h2, Nat.le_of_ble_eq_true h3, fun h0 => by rw [h0] at h4; cases h4⟩

theorem stB_fld0 {H : AH} {x y z : Value} {el : TypeId} {op : Option Nat} {bl p e : Nat} : stB 3 H (some (.cells [x, y, z] el op false)) bl 0 (.agg [nv p, nv e, .slice none 0 0].toArray) = some (undef, H.set bl (.cells [nv p, nv e, .slice none 0 0] el op false)) :=
  stB_all (n := 3) (c := [x, y, z]) (c' := [nv p, nv e, .slice none 0 0]) rfl rfl rfl

/-- Is that a field that Make returns? -/
def validB (p e : Nat) (m : List Nat) : Bool :=
  if 2 ≤ p ∧ 1 ≤ e ∧ e ≤ 6 ∧ m.length = e ∧ p ^ e ≤ 64 then (match mkT.getD (p ^ e) none with | some x => decide (x.1 = p) && decide (x.2.2 = m) | none => false) else false
theorem valid_spec {p e b n c : Nat} {m : List Nat} {H : AH} {el : TypeId} {op : Option Nat} {r : Bool} (hb : H[b]? = some (.cells (m.map nv) el op r)) (hn : n = m.length) (hp : p ≤ 100) (he : e ≤ 100) (hl : n ≤ 100) :
    FN Try.prog 13 [fldv p e b n c] H (fun v H' => v = .bool (validB p e m) ∧ H' = H) := by
  have hb2 := fun (Y : AH) => get_old (L := Y) hb
  refine FN.gc0 (FN.of_compZ mixed xf13_ok (Nat.le_of_ble_eq_true rfl) ?_)
  simp (disch := (first | omega | (simp only [List.length_map]; omega) | (simp only [List.length_map, List.length_set, List.length_replicate, List.length_append, List.length_cons, List.length_nil] <;> omega) | (simp only [all_nv]; done) | rfl)) only [↓stPre, stOwn, stNat, stList, stProp, Nat.reduceEqDiff, Nat.reduceLT, Nat.reduceLeDiff, ↓reduceIte, eq_self, true_implies, false_implies, ite_true, ite_false, if_true, if_false, ne_eq, xf13]
  by_cases h : 2 ≤ p ∧ 1 ≤ e ∧ e ≤ 6 ∧ m.length = e ∧ p ^ e ≤ 64
  · have hv : validB p e m = (match mkT.getD (p ^ e) none with | some x => decide (x.1 = p) && decide (x.2.2 = m) | none => false) := by unfold validB; rw [if_pos h]
    obtain ⟨h1, h2, h3, h4, h5⟩ := h
    refine FZ.use (sound_spec h1 h2 h3 (hn.trans h4) h5) ?_
    simp (disch := (first | omega | (simp only [List.length_map]; omega) | (simp only [List.length_map, List.length_set, List.length_replicate, List.length_append, List.length_cons, List.length_nil] <;> omega) | (simp only [all_nv]; done) | rfl)) only [↓stPre, stOwn, stNat, stList, stProp, Nat.reduceEqDiff, Nat.reduceLT, Nat.reduceLeDiff, ↓reduceIte, eq_self, true_implies, false_implies, ite_true, ite_false, if_true, if_false, ne_eq, xf13]
    refine FZ.use (size_spec h1 h2 h3 (hn.trans h4) h5) ?_
    simp (disch := (first | omega | (simp only [List.length_map]; omega) | (simp only [List.length_map, List.length_set, List.length_replicate, List.length_append, List.length_cons, List.length_nil] <;> omega) | (simp only [all_nv]; done) | rfl)) only [↓stPre, stOwn, stNat, stList, stProp, Nat.reduceEqDiff, Nat.reduceLT, Nat.reduceLeDiff, ↓reduceIte, eq_self, true_implies, false_implies, ite_true, ite_false, if_true, if_false, ne_eq, xf13]
    have hk := make10 (p ^ e) (by omega)
    have hlen := mkT_len (p ^ e) (by omega)
    rw [hv]
    cases hx : mkT.getD (p ^ e) none with
    | none =>
      rw [hx] at hk
      refine FZ.known hk ?_
      simp (disch := (first | omega | (simp only [List.length_map]; omega) | (simp only [List.length_map, List.length_set, List.length_replicate, List.length_append, List.length_cons, List.length_nil] <;> omega) | (simp only [all_nv]; done) | rfl)) only [↓stPre, stOwn, stNat, stList, stProp, Nat.reduceEqDiff, Nat.reduceLT, Nat.reduceLeDiff, ↓reduceIte, eq_self, true_implies, false_implies, ite_true, ite_false, if_true, if_false, ne_eq, mkR, KRes.mk, KRes.hp, stB_fld0, xf13, Nat.reduceAdd]
      simp [ground, scal]
    | some x =>
      obtain ⟨p2, e2, m2⟩ := x
      rw [hx] at hk
      obtain ⟨q1, q2, q3, _⟩ := hlen _ hx
      simp only at q1 q2 q3
      refine FZ.known hk ?_
      by_cases hpp : p2 = p
      · simp (disch := (first | omega | (simp only [List.length_map]; omega) | (simp only [List.length_map, List.length_set, List.length_replicate, List.length_append, List.length_cons, List.length_nil] <;> omega) | (simp only [all_nv]; done) | rfl)) only [↓stPre, stOwn, stNat, stList, stProp, Nat.reduceEqDiff, Nat.reduceLT, Nat.reduceLeDiff, ↓reduceIte, eq_self, true_implies, false_implies, ite_true, ite_false, if_true, if_false, ne_eq, mkR, KRes.mk, KRes.hp, stB_fld, xf13, Nat.reduceAdd, hpp]
        refine FZ.use (equal_spec (get_new.trans rfl) (hb2 _) q1.symm hn (by omega) (by omega)) ?_
        simp (disch := (first | omega | (simp only [List.length_map]; omega) | (simp only [List.length_map, List.length_set, List.length_replicate, List.length_append, List.length_cons, List.length_nil] <;> omega) | (simp only [all_nv]; done) | rfl)) only [↓stPre, stOwn, stNat, stList, stProp, Nat.reduceEqDiff, Nat.reduceLT, Nat.reduceLeDiff, ↓reduceIte, eq_self, true_implies, false_implies, ite_true, ite_false, if_true, if_false, ne_eq, xf13]
        simp [ground, scal, hpp]
      · simp (disch := (first | omega | (simp only [List.length_map]; omega) | (simp only [List.length_map, List.length_set, List.length_replicate, List.length_append, List.length_cons, List.length_nil] <;> omega) | (simp only [all_nv]; done) | rfl)) only [↓stPre, stOwn, stNat, stList, stProp, Nat.reduceEqDiff, Nat.reduceLT, Nat.reduceLeDiff, ↓reduceIte, eq_self, true_implies, false_implies, ite_true, ite_false, if_true, if_false, ne_eq, mkR, KRes.mk, KRes.hp, stB_fld, xf13, Nat.reduceAdd, hpp]
        simp [ground, scal, hpp]
  · have hv : validB p e m = false := by unfold validB; rw [if_neg h]
    rw [hv]
    refine FZ.use (soundF_spec hp he hl (fun hc => h ⟨hc.1, hc.2.1, hc.2.2.1, hn ▸ hc.2.2.2.1, hc.2.2.2.2⟩)) ?_
    simp (disch := (first | omega | (simp only [List.length_map]; omega) | (simp only [List.length_map, List.length_set, List.length_replicate, List.length_append, List.length_cons, List.length_nil] <;> omega) | (simp only [all_nv]; done) | rfl)) only [↓stPre, stOwn, stNat, stList, stProp, Nat.reduceEqDiff, Nat.reduceLT, Nat.reduceLeDiff, ↓reduceIte, eq_self, true_implies, false_implies, ite_true, ite_false, if_true, if_false, ne_eq, xf13]
    simp [ground, scal]

theorem FN.gc0c {P : Program} {f : FuncId} {args : List Value} {H : AH} {R : Value → Prop} (h : FN P f args H (fun v H' => R v ∧ clo v = true ∧ ∃ J, H' = H ++ J)) : FN P f args H (fun v H' => R v ∧ H' = H) := by
  obtain ⟨hc, v, H', ⟨hR, hg, J, rfl⟩, hs⟩ := h
  refine ⟨hc, v, H, ⟨hR, rfl⟩, hs.rename (fun b => if b < H.length then some b else none) (fun b hb => by simp [hb]) (fun b o hb ho => ?_) (fun b b' o h1 h2 => ?_) (VR.of_clo hg _) (Nat.le_refl _) (fun b hb => ?_)⟩
  · simp [Nat.not_lt.2 hb] at ho
  · split at h1 <;> split at h2 <;> simp_all
  · have : (H ++ J)[b]? = H[b]? := List.getElem?_append_left hb
    exact ⟨this.symm, .inl this⟩
theorem makeF_spec {q : Int} {H : AH} (hq : q < 2 ∨ 64 < q) : FN Try.prog 10 [.int .i64 q] H (fun v H' => v = .tuple [.agg [nv 0, nv 0, .slice none 0 0].toArray, nv 1].toArray ∧ H' = H) := by
  refine FN.gc0c (FN.of_compZ mixed xf10_ok (Nat.le_of_ble_eq_true rfl) ?_)
  by_cases h1 : q < 2
  · have h1' : q < ((2 : Nat) : Int) := h1
    simp (disch := (first | omega | (simp only [List.length_map]; omega) | (simp only [List.length_map, List.length_set, List.length_replicate, List.length_append, List.length_cons, List.length_nil] <;> omega) | (simp only [all_nv]; done) | rfl)) only [↓stPre, stOwn, stInt, stList, stProp, Nat.reduceEqDiff, Nat.reduceLT, Nat.reduceLeDiff, ↓reduceIte, eq_self, true_implies, false_implies, ite_true, ite_false, if_true, if_false, ne_eq, xf10, h1']
    simp (disch := (first | omega | (simp only [List.length_map]; omega) | (simp only [List.length_map, List.length_set, List.length_replicate, List.length_append, List.length_cons, List.length_nil] <;> omega) | (simp only [all_nv]; done) | rfl)) only [↓stPre, stOwn, stNat, stList, stProp, Nat.reduceEqDiff, Nat.reduceLT, Nat.reduceLeDiff, ↓reduceIte, eq_self, true_implies, false_implies, ite_true, ite_false, if_true, if_false, ne_eq, xf10, xfill, putL, stB_fld0]
    simp [ground, scal, clo]
  · have h1' : ¬ q < ((2 : Nat) : Int) := h1
    have h2' : ((64 : Nat) : Int) < q := by omega
    simp (disch := (first | omega | (simp only [List.length_map]; omega) | (simp only [List.length_map, List.length_set, List.length_replicate, List.length_append, List.length_cons, List.length_nil] <;> omega) | (simp only [all_nv]; done) | rfl)) only [↓stPre, stOwn, stInt, stList, stProp, Nat.reduceEqDiff, Nat.reduceLT, Nat.reduceLeDiff, ↓reduceIte, eq_self, true_implies, false_implies, ite_true, ite_false, if_true, if_false, ne_eq, xf10, h1', h2']
    simp (disch := (first | omega | (simp only [List.length_map]; omega) | (simp only [List.length_map, List.length_set, List.length_replicate, List.length_append, List.length_cons, List.length_nil] <;> omega) | (simp only [all_nv]; done) | rfl)) only [↓stPre, stOwn, stNat, stList, stProp, Nat.reduceEqDiff, Nat.reduceLT, Nat.reduceLeDiff, ↓reduceIte, eq_self, true_implies, false_implies, ite_true, ite_false, if_true, if_false, ne_eq, xf10, xfill, putL, stB_fld0]
    simp [ground, scal, clo]
end Go.Sim

set_option linter.unusedSimpArgs false
namespace Go.Sim
open Go Go.Proofs

theorem ints_spec {b1 b2 n1 n2 c1 c2 : Nat} {X Y : List Nat} {H : AH} {el1 el2 : TypeId} {op1 op2 : Option Nat} {r1 r2 : Bool} (h1 : H[b1]? = some (.cells (X.map nv) el1 op1 r1)) (h2 : H[b2]? = some (.cells (Y.map nv) el2 op2 r2)) (hn1 : n1 = X.length) (hn2 : n2 = Y.length) (hl : n1 ≤ 100) :
    FN Try.prog 49 [.slice (some ⟨b1, 0, none⟩) n1 c1, .slice (some ⟨b2, 0, none⟩) n2 c2] H (fun v H' => v = .bool (decide (X = Y)) ∧ H' = H) := by
  refine FN.gc0 (FN.of_compZ mixed xf49_ok (Nat.le_of_ble_eq_true rfl) ?_)
  by_cases hln : n1 = n2
  · by_cases hXY : X = Y
    · simp (disch := (first | omega | (simp only [List.length_map]; omega) | (simp only [List.length_map, List.length_set, List.length_replicate, List.length_append, List.length_cons, List.length_nil] <;> omega) | (simp only [all_nv]; done) | rfl)) only [↓stPre, stOwn, stNat, stList, stProp, Nat.reduceEqDiff, Nat.reduceLT, Nat.reduceLeDiff, ↓reduceIte, eq_self, true_implies, false_implies, ite_true, ite_false, if_true, if_false, ne_eq, xf49, hln]
      refine LZ.nat n2 (fun k s H' => s.env 0 = .slice (some ⟨b1, 0, none⟩) n2 c1 ∧ s.env 1 = .slice (some ⟨b2, 0, none⟩) n2 c2 ∧ s.env 5 = nv k ∧ s.ds = [] ∧ H' = H) ?_ ?_ ?_
      · simp (disch := (first | omega | (simp only [List.length_map]; omega) | (simp only [List.length_map, List.length_set, List.length_replicate, List.length_append, List.length_cons, List.length_nil] <;> omega) | (simp only [all_nv]; done) | rfl)) only [↓stPre, stOwn, stNat, stList, stProp, Nat.reduceEqDiff, Nat.reduceLT, Nat.reduceLeDiff, ↓reduceIte, eq_self, true_implies, false_implies, ite_true, ite_false, if_true, if_false, ne_eq]
        simp [hln]
      · rintro k s H1 hk ⟨e0, e1, e5, eds, rfl⟩
        have hg : X.getD k 0 = Y.getD k 0 := by rw [hXY]
        simp (disch := (first | omega | (simp only [List.length_map]; omega) | (simp only [List.length_map, List.length_set, List.length_replicate, List.length_append, List.length_cons, List.length_nil] <;> omega) | (simp only [all_nv]; done) | rfl)) only [↓stPre, stOwn, stNat, stList, stProp, Nat.reduceEqDiff, Nat.reduceLT, Nat.reduceLeDiff, ↓reduceIte, eq_self, true_implies, false_implies, ite_true, ite_false, if_true, if_false, ne_eq, e0, e1, e5, eds, hk, h1, h2, hg]
      · rintro s H1 ⟨e0, e1, e5, eds, rfl⟩
        simp (disch := (first | omega | (simp only [List.length_map]; omega) | (simp only [List.length_map, List.length_set, List.length_replicate, List.length_append, List.length_cons, List.length_nil] <;> omega) | (simp only [all_nv]; done) | rfl)) only [↓stPre, stOwn, stNat, stList, stProp, Nat.reduceEqDiff, Nat.reduceLT, Nat.reduceLeDiff, ↓reduceIte, eq_self, true_implies, false_implies, ite_true, ite_false, if_true, if_false, ne_eq, e0, e1, e5, eds, xf49]
        simp [ground, scal, hXY]
    · obtain ⟨i0, hi0, hne0⟩ := neq_at (by omega) hXY
      obtain ⟨i, ⟨hi, hne⟩, hlo⟩ := least (fun i => i < X.length ∧ X.getD i 0 ≠ Y.getD i 0) i0 ⟨hi0, hne0⟩
      simp (disch := (first | omega | (simp only [List.length_map]; omega) | (simp only [List.length_map, List.length_set, List.length_replicate, List.length_append, List.length_cons, List.length_nil] <;> omega) | (simp only [all_nv]; done) | rfl)) only [↓stPre, stOwn, stNat, stList, stProp, Nat.reduceEqDiff, Nat.reduceLT, Nat.reduceLeDiff, ↓reduceIte, eq_self, true_implies, false_implies, ite_true, ite_false, if_true, if_false, ne_eq, xf49, hln]
      refine LZ.nat i (fun k s H' => s.env 0 = .slice (some ⟨b1, 0, none⟩) n2 c1 ∧ s.env 1 = .slice (some ⟨b2, 0, none⟩) n2 c2 ∧ s.env 5 = nv k ∧ s.ds = [] ∧ H' = H) ?_ ?_ ?_
      · simp (disch := (first | omega | (simp only [List.length_map]; omega) | (simp only [List.length_map, List.length_set, List.length_replicate, List.length_append, List.length_cons, List.length_nil] <;> omega) | (simp only [all_nv]; done) | rfl)) only [↓stPre, stOwn, stNat, stList, stProp, Nat.reduceEqDiff, Nat.reduceLT, Nat.reduceLeDiff, ↓reduceIte, eq_self, true_implies, false_implies, ite_true, ite_false, if_true, if_false, ne_eq]
        simp [hln]
      · rintro k s H1 hk ⟨e0, e1, e5, eds, rfl⟩
        have hg : X.getD k 0 = Y.getD k 0 := by
          have := hlo k hk
          rcases Nat.decEq (X.getD k 0) (Y.getD k 0) with h | h
          · exact absurd ⟨by omega, h⟩ this
          · exact h
        have hk2 : k < n2 := by omega
        simp (disch := (first | omega | (simp only [List.length_map]; omega) | (simp only [List.length_map, List.length_set, List.length_replicate, List.length_append, List.length_cons, List.length_nil] <;> omega) | (simp only [all_nv]; done) | rfl)) only [↓stPre, stOwn, stNat, stList, stProp, Nat.reduceEqDiff, Nat.reduceLT, Nat.reduceLeDiff, ↓reduceIte, eq_self, true_implies, false_implies, ite_true, ite_false, if_true, if_false, ne_eq, e0, e1, e5, eds, hk2, h1, h2, hg]
      · rintro s H1 ⟨e0, e1, e5, eds, rfl⟩
        have hk2 : i < n2 := by omega
        simp (disch := (first | omega | (simp only [List.length_map]; omega) | (simp only [List.length_map, List.length_set, List.length_replicate, List.length_append, List.length_cons, List.length_nil] <;> omega) | (simp only [all_nv]; done) | rfl)) only [↓stPre, stOwn, stNat, stList, stProp, Nat.reduceEqDiff, Nat.reduceLT, Nat.reduceLeDiff, ↓reduceIte, eq_self, true_implies, false_implies, ite_true, ite_false, if_true, if_false, ne_eq, e0, e1, e5, eds, hk2, h1, h2, hne, xf49]
        simp [ground, scal, hXY]
  · have hXY : X ≠ Y := fun h => hln (by rw [hn1, hn2, h])
    simp (disch := (first | omega | (simp only [List.length_map]; omega) | (simp only [List.length_map, List.length_set, List.length_replicate, List.length_append, List.length_cons, List.length_nil] <;> omega) | (simp only [all_nv]; done) | rfl)) only [↓stPre, stOwn, stNat, stList, stProp, Nat.reduceEqDiff, Nat.reduceLT, Nat.reduceLeDiff, ↓reduceIte, eq_self, true_implies, false_implies, ite_true, ite_false, if_true, if_false, ne_eq, xf49, hln]
    simp [ground, scal, hXY]

theorem same_spec {p1 e1 b1 n1 c1 p2 e2 b2 n2 c2 : Nat} {X Y : List Nat} {H : AH} {el1 el2 : TypeId} {op1 op2 : Option Nat} {r1 r2 : Bool} (h1 : H[b1]? = some (.cells (X.map nv) el1 op1 r1)) (h2 : H[b2]? = some (.cells (Y.map nv) el2 op2 r2)) (hn1 : n1 = X.length) (hn2 : n2 = Y.length) (hl : n1 ≤ 100) :
    FN Try.prog 12 [fldv p1 e1 b1 n1 c1, fldv p2 e2 b2 n2 c2] H (fun v H' => v = .bool (decide (p1 = p2) && decide (e1 = e2) && decide (X = Y)) ∧ H' = H) := by
  have g1 := fun (Y : AH) => get_old (L := Y) h1
  have g2 := fun (Y : AH) => get_old (L := Y) h2
  refine FN.gc0 (FN.of_compZ mixed xf12_ok (Nat.le_of_ble_eq_true rfl) ?_)
  by_cases hp : p1 = p2
  · by_cases he : e1 = e2
    · simp (disch := (first | omega | (simp only [List.length_map]; omega) | (simp only [List.length_map, List.length_set, List.length_replicate, List.length_append, List.length_cons, List.length_nil] <;> omega) | (simp only [all_nv]; done) | rfl)) only [↓stPre, stOwn, stNat, stList, stProp, Nat.reduceEqDiff, Nat.reduceLT, Nat.reduceLeDiff, ↓reduceIte, eq_self, true_implies, false_implies, ite_true, ite_false, if_true, if_false, ne_eq, xf12, hp, he]
      refine FZ.use (ints_spec (g1 _) (g2 _) hn1 hn2 hl) ?_
      simp (disch := (first | omega | (simp only [List.length_map]; omega) | (simp only [List.length_map, List.length_set, List.length_replicate, List.length_append, List.length_cons, List.length_nil] <;> omega) | (simp only [all_nv]; done) | rfl)) only [↓stPre, stOwn, stNat, stList, stProp, Nat.reduceEqDiff, Nat.reduceLT, Nat.reduceLeDiff, ↓reduceIte, eq_self, true_implies, false_implies, ite_true, ite_false, if_true, if_false, ne_eq, xf12]
      simp [ground, scal, hp, he]
    · simp (disch := (first | omega | (simp only [List.length_map]; omega) | (simp only [List.length_map, List.length_set, List.length_replicate, List.length_append, List.length_cons, List.length_nil] <;> omega) | (simp only [all_nv]; done) | rfl)) only [↓stPre, stOwn, stNat, stList, stProp, Nat.reduceEqDiff, Nat.reduceLT, Nat.reduceLeDiff, ↓reduceIte, eq_self, true_implies, false_implies, ite_true, ite_false, if_true, if_false, ne_eq, xf12, hp, he]
      simp [ground, scal, hp, he]
  · simp (disch := (first | omega | (simp only [List.length_map]; omega) | (simp only [List.length_map, List.length_set, List.length_replicate, List.length_append, List.length_cons, List.length_nil] <;> omega) | (simp only [all_nv]; done) | rfl)) only [↓stPre, stOwn, stNat, stList, stProp, Nat.reduceEqDiff, Nat.reduceLT, Nat.reduceLeDiff, ↓reduceIte, eq_self, true_implies, false_implies, ite_true, ite_false, if_true, if_false, ne_eq, xf12, hp]
    simp [ground, scal, hp]

theorem rpowG_spec {p e : Nat} {H : AH} (hp0 : 1 ≤ p) (hp : p ≤ 100) (he : e ≤ 8) : FN Try.prog 52 [nv p, nv e] H (fun v H' => v = nv (p ^ e) ∧ H' = H) := by
  have hbd : ∀ k, k ≤ 8 → p ^ k ≤ 10000000000000000 := fun k hk => Nat.le_trans (Nat.pow_le_pow_left hp k) (Nat.le_trans (Nat.pow_le_pow_right (by omega) hk) (by decide))
  refine FN.gc0 (FN.of_compZ mixed xf52_ok (Nat.le_of_ble_eq_true rfl) ?_)
  simp (disch := (first | omega | (simp only [List.length_map]; omega) | (simp only [List.length_map, List.length_set, List.length_replicate, List.length_append, List.length_cons, List.length_nil] <;> omega) | (simp only [all_nv]; done) | rfl)) only [↓stPre, stOwn, stNat, stList, stProp, Nat.reduceEqDiff, Nat.reduceLT, Nat.reduceLeDiff, ↓reduceIte, eq_self, true_implies, false_implies, ite_true, ite_false, if_true, if_false, ne_eq, xf52]
  refine LZ.nat e (fun k s H' => s.env 0 = nv p ∧ s.env 1 = nv e ∧ s.env 5 = nv (p ^ k) ∧ s.env 6 = nv k ∧ s.ds = [] ∧ H' = H) ?_ ?_ ?_
  · simp (disch := (first | omega | (simp only [List.length_map]; omega) | (simp only [List.length_map, List.length_set, List.length_replicate, List.length_append, List.length_cons, List.length_nil] <;> omega) | (simp only [all_nv]; done) | rfl)) only [↓stPre, stOwn, stNat, stList, stProp, Nat.reduceEqDiff, Nat.reduceLT, Nat.reduceLeDiff, ↓reduceIte, eq_self, true_implies, false_implies, ite_true, ite_false, if_true, if_false, ne_eq]
    simp
  · rintro k s H1 hk ⟨e0, e1, e5, e6, eds, rfl⟩
    have h2 := hbd (k + 1) (by omega)
    rw [Nat.pow_succ] at h2
    simp (disch := (first | omega | (simp only [List.length_map]; omega) | (simp only [List.length_map, List.length_set, List.length_replicate, List.length_append, List.length_cons, List.length_nil] <;> omega) | (simp only [all_nv]; done) | rfl)) only [↓stPre, stOwn, stNat, stList, stProp, Nat.reduceEqDiff, Nat.reduceLT, Nat.reduceLeDiff, ↓reduceIte, eq_self, true_implies, false_implies, ite_true, ite_false, if_true, if_false, ne_eq, e0, e1, e5, e6, eds, hk]
    simp [Nat.pow_succ]
  · rintro s H1 ⟨e0, e1, e5, e6, eds, rfl⟩
    simp (disch := (first | omega | (simp only [List.length_map]; omega) | (simp only [List.length_map, List.length_set, List.length_replicate, List.length_append, List.length_cons, List.length_nil] <;> omega) | (simp only [all_nv]; done) | rfl)) only [↓stPre, stOwn, stNat, stList, stProp, Nat.reduceEqDiff, Nat.reduceLT, Nat.reduceLeDiff, ↓reduceIte, eq_self, true_implies, false_implies, ite_true, ite_false, if_true, if_false, ne_eq, e0, e1, e5, e6, eds, xf52]
    simp [ground, scal]

theorem stB_two {H : AH} {x y : Value} {el : TypeId} {op : Option Nat} {bl p e : Nat} : stB 2 H (some (.cells [x, y] el op false)) bl 0 (.agg [nv p, nv e].toArray) = some (undef, H.set bl (.cells [nv p, nv e] el op false)) :=
  stB_all (n := 2) (c := [x, y]) (c' := [nv p, nv e]) rfl rfl rfl
theorem partsF_spec {q : Int} {H : AH} (hq : q < 2 ∨ 64 < q) : FN Try.prog 46 [.int .i64 q] H (fun v H' => v = .agg [nv 0, nv 0].toArray ∧ H' = H) := by
  refine FN.gc0c (FN.of_compZ mixed xf46_ok (Nat.le_of_ble_eq_true rfl) ?_)
  by_cases h1 : q < 2
  · have h1' : q < ((2 : Nat) : Int) := h1
    simp (disch := (first | omega | (simp only [List.length_map]; omega) | (simp only [List.length_map, List.length_set, List.length_replicate, List.length_append, List.length_cons, List.length_nil] <;> omega) | (simp only [all_nv]; done) | rfl)) only [↓stPre, stOwn, stInt, stList, stProp, Nat.reduceEqDiff, Nat.reduceLT, Nat.reduceLeDiff, ↓reduceIte, eq_self, true_implies, false_implies, ite_true, ite_false, if_true, if_false, ne_eq, xf46, h1']
    simp (disch := (first | omega | (simp only [List.length_map]; omega) | (simp only [List.length_map, List.length_set, List.length_replicate, List.length_append, List.length_cons, List.length_nil] <;> omega) | (simp only [all_nv]; done) | rfl)) only [↓stPre, stOwn, stNat, stList, stProp, Nat.reduceEqDiff, Nat.reduceLT, Nat.reduceLeDiff, ↓reduceIte, eq_self, true_implies, false_implies, ite_true, ite_false, if_true, if_false, ne_eq, xf46, xfill, putL, stB_two]
    simp [ground, scal, clo]
  · have h1' : ¬ q < ((2 : Nat) : Int) := h1
    have h2' : ((64 : Nat) : Int) < q := by omega
    simp (disch := (first | omega | (simp only [List.length_map]; omega) | (simp only [List.length_map, List.length_set, List.length_replicate, List.length_append, List.length_cons, List.length_nil] <;> omega) | (simp only [all_nv]; done) | rfl)) only [↓stPre, stOwn, stInt, stList, stProp, Nat.reduceEqDiff, Nat.reduceLT, Nat.reduceLeDiff, ↓reduceIte, eq_self, true_implies, false_implies, ite_true, ite_false, if_true, if_false, ne_eq, xf46, h1', h2']
    simp (disch := (first | omega | (simp only [List.length_map]; omega) | (simp only [List.length_map, List.length_set, List.length_replicate, List.length_append, List.length_cons, List.length_nil] <;> omega) | (simp only [all_nv]; done) | rfl)) only [↓stPre, stOwn, stNat, stList, stProp, Nat.reduceEqDiff, Nat.reduceLT, Nat.reduceLeDiff, ↓reduceIte, eq_self, true_implies, false_implies, ite_true, ite_false, if_true, if_false, ne_eq, xf46, xfill, putL, stB_two]
    simp [ground, scal, clo]
theorem rmakeF_spec {q : Int} {H : AH} (hq : q < 2 ∨ 64 < q) : FN Try.prog 11 [.int .i64 q] H (fun v H' => v = .tuple [.agg [nv 0, nv 0, .slice none 0 0].toArray, nv 1].toArray ∧ H' = H) := by
  refine FN.gc0c (FN.of_compZ mixed xf11_ok (Nat.le_of_ble_eq_true rfl) ?_)
  simp (disch := (first | omega | (simp only [List.length_map]; omega) | (simp only [List.length_map, List.length_set, List.length_replicate, List.length_append, List.length_cons, List.length_nil] <;> omega) | (simp only [all_nv]; done) | rfl)) only [↓stPre, stOwn, stNat, stList, stProp, Nat.reduceEqDiff, Nat.reduceLT, Nat.reduceLeDiff, ↓reduceIte, eq_self, true_implies, false_implies, ite_true, ite_false, if_true, if_false, ne_eq, xf11]
  refine FZ.use (partsF_spec hq) ?_
  simp (disch := (first | omega | (simp only [List.length_map]; omega) | (simp only [List.length_map, List.length_set, List.length_replicate, List.length_append, List.length_cons, List.length_nil] <;> omega) | (simp only [all_nv]; done) | rfl)) only [↓stPre, stOwn, stNat, stList, stProp, Nat.reduceEqDiff, Nat.reduceLT, Nat.reduceLeDiff, ↓reduceIte, eq_self, true_implies, false_implies, ite_true, ite_false, if_true, if_false, ne_eq, xf11, xfill, putL, stB_two, stB_fld0]
  simp [ground, scal, clo]
theorem make11 : ∀ q, q < 65 → KnownOk Try.prog 11 [nv q] (mkR (mkT.getD q none))
  | 0, _ => kMakr0_ok _ (List.mem_of_getElem? (i := 0) rfl)
  | 1, _ => kMakr0_ok _ (List.mem_of_getElem? (i := 1) rfl)
  | 2, _ => kMakr0_ok _ (List.mem_of_getElem? (i := 2) rfl)
  | 3, _ => kMakr0_ok _ (List.mem_of_getElem? (i := 3) rfl)
  | 4, _ => kMakr0_ok _ (List.mem_of_getElem? (i := 4) rfl)
  | 5, _ => kMakr0_ok _ (List.mem_of_getElem? (i := 5) rfl)
  | 6, _ => kMakr0_ok _ (List.mem_of_getElem? (i := 6) rfl)
  | 7, _ => kMakr0_ok _ (List.mem_of_getElem? (i := 7) rfl)
  | 8, _ => kMakr0_ok _ (List.mem_of_getElem? (i := 8) rfl)
  | 9, _ => kMakr0_ok _ (List.mem_of_getElem? (i := 9) rfl)
  | 10, _ => kMakr0_ok _ (List.mem_of_getElem? (i := 10) rfl)
  | 11, _ => kMakr0_ok _ (List.mem_of_getElem? (i := 11) rfl)
  | 12, _ => kMakr0_ok _ (List.mem_of_getElem? (i := 12) rfl)
  | 13, _ => kMakr0_ok _ (List.mem_of_getElem? (i := 13) rfl)
  | 14, _ => kMakr0_ok _ (List.mem_of_getElem? (i := 14) rfl)
  | 15, _ => kMakr0_ok _ (List.mem_of_getElem? (i := 15) rfl)
  | 16, _ => kMakr0_ok _ (List.mem_of_getElem? (i := 16) rfl)
  | 17, _ => kMakr0_ok _ (List.mem_of_getElem? (i := 17) rfl)
  | 18, _ => kMakr0_ok _ (List.mem_of_getElem? (i := 18) rfl)
  | 19, _ => kMakr0_ok _ (List.mem_of_getElem? (i := 19) rfl)
  | 20, _ => kMakr1_ok _ (List.mem_of_getElem? (i := 0) rfl)
  | 21, _ => kMakr1_ok _ (List.mem_of_getElem? (i := 1) rfl)
  | 22, _ => kMakr1_ok _ (List.mem_of_getElem? (i := 2) rfl)
  | 23, _ => kMakr1_ok _ (List.mem_of_getElem? (i := 3) rfl)
  | 24, _ => kMakr1_ok _ (List.mem_of_getElem? (i := 4) rfl)
  | 25, _ => kMakr1_ok _ (List.mem_of_getElem? (i := 5) rfl)
  | 26, _ => kMakr1_ok _ (List.mem_of_getElem? (i := 6) rfl)
  | 27, _ => kMakr1_ok _ (List.mem_of_getElem? (i := 7) rfl)
  | 28, _ => kMakr1_ok _ (List.mem_of_getElem? (i := 8) rfl)
  | 29, _ => kMakr1_ok _ (List.mem_of_getElem? (i := 9) rfl)
  | 30, _ => kMakr1_ok _ (List.mem_of_getElem? (i := 10) rfl)
  | 31, _ => kMakr1_ok _ (List.mem_of_getElem? (i := 11) rfl)
  | 32, _ => kMakr1_ok _ (List.mem_of_getElem? (i := 12) rfl)
  | 33, _ => kMakr1_ok _ (List.mem_of_getElem? (i := 13) rfl)
  | 34, _ => kMakr1_ok _ (List.mem_of_getElem? (i := 14) rfl)
  | 35, _ => kMakr1_ok _ (List.mem_of_getElem? (i := 15) rfl)
  | 36, _ => kMakr1_ok _ (List.mem_of_getElem? (i := 16) rfl)
  | 37, _ => kMakr1_ok _ (List.mem_of_getElem? (i := 17) rfl)
  | 38, _ => kMakr1_ok _ (List.mem_of_getElem? (i := 18) rfl)
  | 39, _ => kMakr1_ok _ (List.mem_of_getElem? (i := 19) rfl)
  | 40, _ => kMakr2_ok _ (List.mem_of_getElem? (i := 0) rfl)
  | 41, _ => kMakr2_ok _ (List.mem_of_getElem? (i := 1) rfl)
  | 42, _ => kMakr2_ok _ (List.mem_of_getElem? (i := 2) rfl)
  | 43, _ => kMakr2_ok _ (List.mem_of_getElem? (i := 3) rfl)
  | 44, _ => kMakr2_ok _ (List.mem_of_getElem? (i := 4) rfl)
  | 45, _ => kMakr2_ok _ (List.mem_of_getElem? (i := 5) rfl)
  | 46, _ => kMakr2_ok _ (List.mem_of_getElem? (i := 6) rfl)
  | 47, _ => kMakr2_ok _ (List.mem_of_getElem? (i := 7) rfl)
  | 48, _ => kMakr2_ok _ (List.mem_of_getElem? (i := 8) rfl)
  | 49, _ => kMakr2_ok _ (List.mem_of_getElem? (i := 9) rfl)
  | 50, _ => kMakr2_ok _ (List.mem_of_getElem? (i := 10) rfl)
  | 51, _ => kMakr2_ok _ (List.mem_of_getElem? (i := 11) rfl)
  | 52, _ => kMakr2_ok _ (List.mem_of_getElem? (i := 12) rfl)
  | 53, _ => kMakr2_ok _ (List.mem_of_getElem? (i := 13) rfl)
  | 54, _ => kMakr2_ok _ (List.mem_of_getElem? (i := 14) rfl)
  | 55, _ => kMakr2_ok _ (List.mem_of_getElem? (i := 15) rfl)
  | 56, _ => kMakr2_ok _ (List.mem_of_getElem? (i := 16) rfl)
  | 57, _ => kMakr2_ok _ (List.mem_of_getElem? (i := 17) rfl)
  | 58, _ => kMakr2_ok _ (List.mem_of_getElem? (i := 18) rfl)
  | 59, _ => kMakr2_ok _ (List.mem_of_getElem? (i := 19) rfl)
  | 60, _ => kMakr3_ok _ (List.mem_of_getElem? (i := 0) rfl)
  | 61, _ => kMakr3_ok _ (List.mem_of_getElem? (i := 1) rfl)
  | 62, _ => kMakr3_ok _ (List.mem_of_getElem? (i := 2) rfl)
  | 63, _ => kMakr3_ok _ (List.mem_of_getElem? (i := 3) rfl)
  | 64, _ => kMakr3_ok _ (List.mem_of_getElem? (i := 4) rfl)
  | n + 65, h => absurd h (by omega)

/-- Is that a field that the reference's Make returns? -/
def rvalidB (p e : Nat) (m : List Nat) : Bool :=
  if 2 ≤ p ∧ p ≤ 64 ∧ 1 ≤ e ∧ e ≤ 6 then (if p ^ e ≤ 64 then (match mkT.getD (p ^ e) none with | some x => decide (p = x.1) && decide (e = x.2.1) && decide (m = x.2.2) | none => false) else false) else false
theorem rvalid_spec {p e b n c : Nat} {m : List Nat} {H : AH} {el : TypeId} {op : Option Nat} {r : Bool} (hb : H[b]? = some (.cells (m.map nv) el op r)) (hn : n = m.length) (hp : p ≤ 100) (he : e ≤ 100) (hl : n ≤ 100) :
    FN Try.prog 17 [fldv p e b n c] H (fun v H' => v = .bool (rvalidB p e m) ∧ H' = H) := by
  have hb2 := fun (Y : AH) => get_old (L := Y) hb
  refine FN.gc0 (FN.of_compZ mixed xf17_ok (Nat.le_of_ble_eq_true rfl) ?_)
  by_cases h : 2 ≤ p ∧ p ≤ 64 ∧ 1 ≤ e ∧ e ≤ 6
  · obtain ⟨h1, h2, h3, h4⟩ := h
    have n1 : ¬ p < 2 := by omega
    have n2 : ¬ 64 < p := by omega
    have n3 : ¬ e < 1 := by omega
    have n4 : ¬ 6 < e := by omega
    simp (disch := (first | omega | (simp only [List.length_map]; omega) | (simp only [List.length_map, List.length_set, List.length_replicate, List.length_append, List.length_cons, List.length_nil] <;> omega) | (simp only [all_nv]; done) | rfl)) only [↓stPre, stOwn, stNat, stList, stProp, Nat.reduceEqDiff, Nat.reduceLT, Nat.reduceLeDiff, ↓reduceIte, eq_self, true_implies, false_implies, ite_true, ite_false, if_true, if_false, ne_eq, xf17, n1, n2, n3, n4]
    refine FZ.use (rpowG_spec (by omega) (by omega) (by omega)) ?_
    simp (disch := (first | omega | (simp only [List.length_map]; omega) | (simp only [List.length_map, List.length_set, List.length_replicate, List.length_append, List.length_cons, List.length_nil] <;> omega) | (simp only [all_nv]; done) | rfl)) only [↓stPre, stOwn, stNat, stList, stProp, Nat.reduceEqDiff, Nat.reduceLT, Nat.reduceLeDiff, ↓reduceIte, eq_self, true_implies, false_implies, ite_true, ite_false, if_true, if_false, ne_eq, xf17]
    by_cases hq : p ^ e ≤ 64
    · have hv : rvalidB p e m = (match mkT.getD (p ^ e) none with | some x => decide (p = x.1) && decide (e = x.2.1) && decide (m = x.2.2) | none => false) := by unfold rvalidB; rw [if_pos ⟨h1, h2, h3, h4⟩, if_pos hq]
      have hk := make11 (p ^ e) (by omega)
      have hlen := mkT_len (p ^ e) (by omega)
      rw [hv]
      cases hx : mkT.getD (p ^ e) none with
      | none =>
        rw [hx] at hk
        refine FZ.known hk ?_
        simp (disch := (first | omega | (simp only [List.length_map]; omega) | (simp only [List.length_map, List.length_set, List.length_replicate, List.length_append, List.length_cons, List.length_nil] <;> omega) | (simp only [all_nv]; done) | rfl)) only [↓stPre, stOwn, stNat, stList, stProp, Nat.reduceEqDiff, Nat.reduceLT, Nat.reduceLeDiff, ↓reduceIte, eq_self, true_implies, false_implies, ite_true, ite_false, if_true, if_false, ne_eq, mkR, KRes.mk, KRes.hp, stB_fld0, xf17, Nat.reduceAdd]
        simp [ground, scal]
      | some x =>
        obtain ⟨p2, e2, m2⟩ := x
        rw [hx] at hk
        obtain ⟨q1, q2, q3, _⟩ := hlen _ hx
        simp only at q1 q2 q3
        refine FZ.known hk ?_
        simp (disch := (first | omega | (simp only [List.length_map]; omega) | (simp only [List.length_map, List.length_set, List.length_replicate, List.length_append, List.length_cons, List.length_nil] <;> omega) | (simp only [all_nv]; done) | rfl)) only [↓stPre, stOwn, stNat, stList, stProp, Nat.reduceEqDiff, Nat.reduceLT, Nat.reduceLeDiff, ↓reduceIte, eq_self, true_implies, false_implies, ite_true, ite_false, if_true, if_false, ne_eq, mkR, KRes.mk, KRes.hp, stB_fld, xf17, Nat.reduceAdd]
        refine FZ.use (same_spec (hb2 _) (get_new.trans rfl) hn q1.symm hl) ?_
        simp (disch := (first | omega | (simp only [List.length_map]; omega) | (simp only [List.length_map, List.length_set, List.length_replicate, List.length_append, List.length_cons, List.length_nil] <;> omega) | (simp only [all_nv]; done) | rfl)) only [↓stPre, stOwn, stNat, stList, stProp, Nat.reduceEqDiff, Nat.reduceLT, Nat.reduceLeDiff, ↓reduceIte, eq_self, true_implies, false_implies, ite_true, ite_false, if_true, if_false, ne_eq, xf17]
        simp [ground, scal]
    · have hv : rvalidB p e m = false := by unfold rvalidB; rw [if_pos ⟨h1, h2, h3, h4⟩, if_neg hq]
      rw [hv]
      refine FZ.use (rmakeF_spec (.inr (by omega))) ?_
      simp (disch := (first | omega | (simp only [List.length_map]; omega) | (simp only [List.length_map, List.length_set, List.length_replicate, List.length_append, List.length_cons, List.length_nil] <;> omega) | (simp only [all_nv]; done) | rfl)) only [↓stPre, stOwn, stNat, stList, stProp, Nat.reduceEqDiff, Nat.reduceLT, Nat.reduceLeDiff, ↓reduceIte, eq_self, true_implies, false_implies, ite_true, ite_false, if_true, if_false, ne_eq, stB_fld0, xf17, Nat.reduceAdd]
      simp [ground, scal]
  · have hv : rvalidB p e m = false := by unfold rvalidB; rw [if_neg h]
    rw [hv]
    by_cases n1 : p < 2
    · simp (disch := (first | omega | (simp only [List.length_map]; omega) | (simp only [List.length_map, List.length_set, List.length_replicate, List.length_append, List.length_cons, List.length_nil] <;> omega) | (simp only [all_nv]; done) | rfl)) only [↓stPre, stOwn, stNat, stList, stProp, Nat.reduceEqDiff, Nat.reduceLT, Nat.reduceLeDiff, ↓reduceIte, eq_self, true_implies, false_implies, ite_true, ite_false, if_true, if_false, ne_eq, xf17, n1]
      simp [ground, scal]
    by_cases n2 : 64 < p
    · simp (disch := (first | omega | (simp only [List.length_map]; omega) | (simp only [List.length_map, List.length_set, List.length_replicate, List.length_append, List.length_cons, List.length_nil] <;> omega) | (simp only [all_nv]; done) | rfl)) only [↓stPre, stOwn, stNat, stList, stProp, Nat.reduceEqDiff, Nat.reduceLT, Nat.reduceLeDiff, ↓reduceIte, eq_self, true_implies, false_implies, ite_true, ite_false, if_true, if_false, ne_eq, xf17, n1, n2]
      simp [ground, scal]
    by_cases n3 : e < 1
    · simp (disch := (first | omega | (simp only [List.length_map]; omega) | (simp only [List.length_map, List.length_set, List.length_replicate, List.length_append, List.length_cons, List.length_nil] <;> omega) | (simp only [all_nv]; done) | rfl)) only [↓stPre, stOwn, stNat, stList, stProp, Nat.reduceEqDiff, Nat.reduceLT, Nat.reduceLeDiff, ↓reduceIte, eq_self, true_implies, false_implies, ite_true, ite_false, if_true, if_false, ne_eq, xf17, n1, n2, n3]
      simp [ground, scal]
    · have n4 : 6 < e := by
        rcases Nat.lt_or_ge 6 e with h5 | h5
        · exact h5
        · exact absurd ⟨by omega, by omega, by omega, h5⟩ h
      simp (disch := (first | omega | (simp only [List.length_map]; omega) | (simp only [List.length_map, List.length_set, List.length_replicate, List.length_append, List.length_cons, List.length_nil] <;> omega) | (simp only [all_nv]; done) | rfl)) only [↓stPre, stOwn, stNat, stList, stProp, Nat.reduceEqDiff, Nat.reduceLT, Nat.reduceLeDiff, ↓reduceIte, eq_self, true_implies, false_implies, ite_true, ite_false, if_true, if_false, ne_eq, xf17, n1, n2, n3, n4]
      simp [ground, scal]

/-- What is no field. -/
def fld0 : Value := .agg [nv 0, nv 0, .slice none 0 0].toArray
theorem k0a_run : kAll xfT (fun _ _ _ => none) 10 5 12 [([fld0, fld0], .val (.bool true))] = true := by kernel_rfl
theorem k0b_run : kAll xfT (fun _ _ _ => none) 10 5 13 [([fld0], .val (.bool false))] = true := by kernel_rfl
theorem same0 : KnownOk Try.prog 12 [.agg [nv 0, nv 0, .slice none 0 0].toArray, .agg [nv 0, nv 0, .slice none 0 0].toArray] (.val (.bool true)) :=
  KTabOk.of mixed xfT_ok noO k0a_run _ (List.mem_of_getElem? (i := 0) rfl)
theorem valid0 : KnownOk Try.prog 13 [.agg [nv 0, nv 0, .slice none 0 0].toArray] (.val (.bool false)) :=
  KTabOk.of mixed xfT_ok noO k0b_run _ (List.mem_of_getElem? (i := 0) rfl)
end Go.Sim

set_option linter.unusedSimpArgs false
namespace Go.Sim
open Go Go.Proofs

theorem asNB_undef : asNB undef = false := rfl
theorem asB_undef : asB undef = false := rfl
theorem ex_spec {H : AH} : FN Try.prog 9 [] H (fun v H' => v = .bool true ∧ H' = H) := ex_ok _ (List.mem_of_getElem? (i := 0) rfl) H
theorem chg_bd {p e r : Nat} {m : List Nat} (he : e ≤ 6) (hm : m.length = e) : (chg p e m r).1 ≤ p + 1 ∧ (chg p e m r).2.1 ≤ 7 ∧ (chg p e m r).2.2.length ≤ 7 := by
  unfold chg
  split
  · exact ⟨by simp <;> omega, by simp <;> omega, by simp <;> omega⟩
  · split
    · exact ⟨by simp <;> omega, by simp <;> omega, by simp <;> omega⟩
    · split
      · exact ⟨by simp <;> omega, by simp <;> omega, by simp <;> omega⟩
      · split
        · exact ⟨by simp <;> omega, by simp <;> omega, by simp <;> omega⟩
        · exact ⟨by simp <;> omega, by simp <;> omega, by simp <;> omega⟩
def oddR (j r : Nat) : Bool := match fdT.getD j (2, 1, [0]) with
  | (p, e, m) => match chg p e m r with
    | (p', e', m') => validB p' e' m' == rvalidB p' e' m'
theorem oddR_all : (List.range 27).all (fun j => (List.range 5).all (oddR j)) = true := by decide +kernel
theorem oddR_at (j r p e : Nat) (m : List Nat) (hj : j < 27) (hr : r < 5) (h : fdT.getD j (2, 1, [0]) = (p, e, m)) : validB (chg p e m r).1 (chg p e m r).2.1 (chg p e m r).2.2 = rvalidB (chg p e m r).1 (chg p e m r).2.1 (chg p e m r).2.2 := by
  have h1 := List.all_eq_true.1 (List.all_eq_true.1 oddR_all j (List.mem_range.2 hj)) r (List.mem_range.2 hr)
  unfold oddR at h1
  rw [h] at h1
  exact eq_of_beq h1
theorem mk_all : (List.range 65).all (fun q => match mkT.getD q none with | some x => validB x.1 x.2.1 x.2.2 | none => true) = true := by decide +kernel
theorem mk_at (q : Nat) (hq : q < 65) : ∀ x, mkT.getD q none = some x → validB x.1 x.2.1 x.2.2 = true := by
  intro x hx
  have h := List.all_eq_true.1 mk_all q (List.mem_range.2 hq)
  rw [hx] at h
  exact h

def tail3 : XC := (.seq (.reg [⟨none, (.ixA 4 1), [(.tmp 4), (.const (nv 0))], (some 54), 0, false, []⟩, ⟨none, (.ld none), [(.tmp 54)], (some 55), 1, false, []⟩, ⟨none, .call, [(.func 14), (.tmp 55)], (some 56), 2, false, []⟩, ⟨none, (.new [(nv 0), (nv 0), (.slice none 0 0)] 26), [], (some 12), 3, false, []⟩, ⟨none, (.st 3), [(.tmp 12), (.tmp 56)], none, 4, false, []⟩]) (.seq (.reg [⟨none, (.ld (some 3)), [(.tmp 12)], (some 57), 0, false, []⟩, ⟨none, .call, [(.func 15), (.tmp 57)], (some 58), 1, false, []⟩, ⟨none, .mov, [(.tmp 58)], (some 13), 2, false, []⟩]) (.seq (.reg [⟨none, (.ixA 4 1), [(.tmp 4), (.const (nv 1))], (some 59), 0, false, []⟩, ⟨none, (.ld none), [(.tmp 59)], (some 60), 1, false, []⟩, ⟨none, (.conv .i64), [(.tmp 60)], (some 61), 2, false, []⟩, ⟨none, .mov, [(.tmp 13)], (some 62), 3, false, []⟩, ⟨none, (.bin .rem 0), [(.tmp 61), (.tmp 62)], (some 63), 4, false, []⟩, ⟨none, (.ixA 4 1), [(.tmp 4), (.const (nv 2))], (some 64), 5, false, []⟩, ⟨none, (.ld none), [(.tmp 64)], (some 65), 6, false, []⟩, ⟨none, (.conv .i64), [(.tmp 65)], (some 66), 7, false, []⟩, ⟨none, .mov, [(.tmp 13)], (some 67), 8, false, []⟩, ⟨none, (.bin .rem 0), [(.tmp 66), (.tmp 67)], (some 68), 9, false, []⟩, ⟨none, .mov, [(.tmp 63)], (some 14), 10, false, []⟩, ⟨none, .mov, [(.tmp 68)], (some 15), 11, false, []⟩]) (.seq (.reg [⟨none, (.ld (some 3)), [(.tmp 12)], (some 69), 0, false, []⟩, ⟨none, (.ixA 4 1), [(.tmp 4), (.const (nv 3))], (some 70), 1, false, []⟩, ⟨none, (.ld none), [(.tmp 70)], (some 71), 2, false, []⟩, ⟨none, (.conv .i64), [(.tmp 71)], (some 72), 3, false, []⟩, ⟨none, .call, [(.func 16), (.tmp 69), (.tmp 72)], (some 73), 4, false, []⟩, ⟨none, (.new [(nv 0), (nv 0), (.slice none 0 0)] 26), [], (some 16), 5, false, []⟩, ⟨none, (.st 3), [(.tmp 16), (.tmp 73)], none, 6, false, []⟩]) (.seq (.seq (.reg [⟨none, (.ld (some 3)), [(.tmp 16)], (some 74), 0, false, []⟩, ⟨none, (.ld (some 3)), [(.tmp 16)], (some 76), 2, true, []⟩, ⟨none, .call, [(.func 13), (.tmp 74)], (some 75), 1, false, [2]⟩, ⟨none, .call, [(.func 17), (.tmp 76)], (some 77), 3, false, []⟩, ⟨none, (.bin .neq 1), [(.tmp 75), (.tmp 77)], (some 78), 4, false, []⟩, ⟨none, .mov, [(.tmp 78)], (some 79), 5, false, []⟩, ⟨(some (79, false)), (.ld (some 3)), [(.tmp 12)], (some 80), 6, false, []⟩, ⟨(some (79, false)), .mov, [(.tmp 13)], (some 82), 8, false, []⟩, ⟨(some (79, false)), .call, [(.func 18), (.tmp 80)], (some 81), 7, false, []⟩, ⟨(some (79, false)), (.bin .neq 0), [(.tmp 81), (.tmp 82)], (some 83), 9, false, []⟩, ⟨none, .pick, [(.tmp 79), (.const (.bool true)), (.tmp 83)], (some 84), 10, false, []⟩, ⟨none, .mov, [(.tmp 84)], (some 85), 11, false, []⟩, ⟨(some (85, false)), (.ld (some 3)), [(.tmp 12)], (some 86), 12, false, []⟩, ⟨(some (85, false)), .mov, [(.tmp 14)], (some 87), 13, false, []⟩, ⟨(some (85, false)), .mov, [(.tmp 15)], (some 88), 14, false, []⟩, ⟨(some (85, false)), (.ld (some 3)), [(.tmp 12)], (some 90), 16, true, []⟩, ⟨(some (85, false)), .mov, [(.tmp 14)], (some 91), 17, false, []⟩, ⟨(some (85, false)), .mov, [(.tmp 15)], (some 92), 18, false, []⟩, ⟨(some (85, false)), .call, [(.func 19), (.tmp 86), (.tmp 87), (.tmp 88)], (some 89), 15, false, [16]⟩, ⟨(some (85, false)), .call, [(.func 20), (.tmp 90), (.tmp 91), (.tmp 92)], (some 93), 19, false, []⟩, ⟨(some (85, false)), (.bin .neq 0), [(.tmp 89), (.tmp 93)], (some 94), 20, false, []⟩, ⟨none, .pick, [(.tmp 85), (.const (.bool true)), (.tmp 94)], (some 95), 21, false, []⟩, ⟨none, .mov, [(.tmp 95)], (some 96), 22, false, []⟩, ⟨(some (96, false)), (.ld (some 3)), [(.tmp 12)], (some 97), 23, false, []⟩, ⟨(some (96, false)), .mov, [(.tmp 14)], (some 98), 24, false, []⟩, ⟨(some (96, false)), .mov, [(.tmp 15)], (some 99), 25, false, []⟩, ⟨(some (96, false)), (.ld (some 3)), [(.tmp 12)], (some 101), 27, true, []⟩, ⟨(some (96, false)), .mov, [(.tmp 14)], (some 102), 28, false, []⟩, ⟨(some (96, false)), .mov, [(.tmp 15)], (some 103), 29, false, []⟩, ⟨(some (96, false)), .call, [(.func 21), (.tmp 97), (.tmp 98), (.tmp 99)], (some 100), 26, false, [27]⟩, ⟨(some (96, false)), .call, [(.func 22), (.tmp 101), (.tmp 102), (.tmp 103)], (some 104), 30, false, []⟩, ⟨(some (96, false)), (.bin .neq 0), [(.tmp 100), (.tmp 104)], (some 105), 31, false, []⟩, ⟨none, .pick, [(.tmp 96), (.const (.bool true)), (.tmp 105)], (some 106), 32, false, []⟩, ⟨none, .mov, [(.tmp 106)], (some 107), 33, false, []⟩, ⟨(some (107, false)), (.ld (some 3)), [(.tmp 12)], (some 108), 34, false, []⟩, ⟨(some (107, false)), .mov, [(.tmp 14)], (some 109), 35, false, []⟩, ⟨(some (107, false)), .mov, [(.tmp 15)], (some 110), 36, false, []⟩, ⟨(some (107, false)), (.ld (some 3)), [(.tmp 12)], (some 112), 38, true, []⟩, ⟨(some (107, false)), .mov, [(.tmp 14)], (some 113), 39, false, []⟩, ⟨(some (107, false)), .mov, [(.tmp 15)], (some 114), 40, false, []⟩, ⟨(some (107, false)), .call, [(.func 23), (.tmp 108), (.tmp 109), (.tmp 110)], (some 111), 37, false, [38]⟩, ⟨(some (107, false)), .call, [(.func 24), (.tmp 112), (.tmp 113), (.tmp 114)], (some 115), 41, false, []⟩, ⟨(some (107, false)), (.bin .neq 0), [(.tmp 111), (.tmp 115)], (some 116), 42, false, []⟩, ⟨none, .pick, [(.tmp 107), (.const (.bool true)), (.tmp 116)], (some 117), 43, false, []⟩, ⟨none, .mov, [(.tmp 117)], (some 118), 44, false, []⟩, ⟨(some (118, false)), (.ld (some 3)), [(.tmp 12)], (some 119), 45, false, []⟩, ⟨(some (118, false)), .mov, [(.tmp 14)], (some 120), 46, false, []⟩, ⟨(some (118, false)), (.ld (some 3)), [(.tmp 12)], (some 122), 48, true, []⟩, ⟨(some (118, false)), .mov, [(.tmp 14)], (some 123), 49, false, []⟩, ⟨(some (118, false)), .call, [(.func 25), (.tmp 119), (.tmp 120)], (some 121), 47, false, [48]⟩, ⟨(some (118, false)), .call, [(.func 26), (.tmp 122), (.tmp 123)], (some 124), 50, false, []⟩, ⟨(some (118, false)), (.bin .neq 0), [(.tmp 121), (.tmp 124)], (some 125), 51, false, []⟩, ⟨none, .pick, [(.tmp 118), (.const (.bool true)), (.tmp 125)], (some 126), 52, false, []⟩]) (.cond (.tmp 126) (.seq (.reg [⟨none, .mov, [(.const (.bool false))], (some 6), 0, false, []⟩]) .ret) .skip)) (.seq (.reg [⟨none, (.ld (some 3)), [(.tmp 12)], (some 128), 0, false, []⟩, ⟨none, .mov, [(.tmp 14)], (some 129), 1, false, []⟩, ⟨none, .call, [(.func 27), (.tmp 128), (.tmp 129)], (some 130), 2, false, []⟩, ⟨none, .mov, [(.tmp 130)], (some 127), 3, false, []⟩, ⟨none, (.ext 0), [(.tmp 127)], (some 131), 4, false, []⟩, ⟨none, (.ext 1), [(.tmp 127)], (some 132), 5, false, []⟩, ⟨none, .mov, [(.tmp 131)], (some 17), 6, false, []⟩, ⟨none, .mov, [(.tmp 132)], (some 18), 7, false, []⟩]) (.seq (.reg [⟨none, (.ld (some 3)), [(.tmp 12)], (some 134), 0, false, []⟩, ⟨none, .mov, [(.tmp 14)], (some 135), 1, false, []⟩, ⟨none, .call, [(.func 28), (.tmp 134), (.tmp 135)], (some 136), 2, false, []⟩, ⟨none, .mov, [(.tmp 136)], (some 133), 3, false, []⟩, ⟨none, (.ext 0), [(.tmp 133)], (some 137), 4, false, []⟩, ⟨none, (.ext 1), [(.tmp 133)], (some 138), 5, false, []⟩, ⟨none, .mov, [(.tmp 137)], (some 19), 6, false, []⟩, ⟨none, .mov, [(.tmp 138)], (some 20), 7, false, []⟩]) (.seq (.reg [⟨none, (.ld (some 3)), [(.tmp 12)], (some 140), 0, false, []⟩, ⟨none, .mov, [(.tmp 14)], (some 141), 1, false, []⟩, ⟨none, .mov, [(.tmp 2)], (some 142), 2, false, []⟩, ⟨none, .call, [(.func 29), (.tmp 140), (.tmp 141), (.tmp 142)], (some 143), 3, false, []⟩, ⟨none, .mov, [(.tmp 143)], (some 139), 4, false, []⟩, ⟨none, (.ext 0), [(.tmp 139)], (some 144), 5, false, []⟩, ⟨none, (.ext 1), [(.tmp 139)], (some 145), 6, false, []⟩, ⟨none, .mov, [(.tmp 144)], (some 21), 7, false, []⟩, ⟨none, .mov, [(.tmp 145)], (some 22), 8, false, []⟩]) (.seq (.reg [⟨none, (.ld (some 3)), [(.tmp 12)], (some 147), 0, false, []⟩, ⟨none, .mov, [(.tmp 14)], (some 148), 1, false, []⟩, ⟨none, .mov, [(.tmp 2)], (some 149), 2, false, []⟩, ⟨none, .call, [(.func 30), (.tmp 147), (.tmp 148), (.tmp 149)], (some 150), 3, false, []⟩, ⟨none, .mov, [(.tmp 150)], (some 146), 4, false, []⟩, ⟨none, (.ext 0), [(.tmp 146)], (some 151), 5, false, []⟩, ⟨none, (.ext 1), [(.tmp 146)], (some 152), 6, false, []⟩, ⟨none, .mov, [(.tmp 151)], (some 23), 7, false, []⟩, ⟨none, .mov, [(.tmp 152)], (some 24), 8, false, []⟩]) (.seq (.reg [⟨none, .mov, [(.tmp 17)], (some 153), 0, false, []⟩, ⟨none, .mov, [(.tmp 19)], (some 154), 1, false, []⟩, ⟨none, (.bin .eql 0), [(.tmp 153), (.tmp 154)], (some 155), 2, false, []⟩, ⟨none, .mov, [(.tmp 155)], (some 156), 3, false, []⟩, ⟨(some (156, true)), .mov, [(.tmp 18)], (some 157), 4, false, []⟩, ⟨(some (156, true)), .mov, [(.tmp 20)], (some 158), 5, false, []⟩, ⟨(some (156, true)), (.bin .eql 0), [(.tmp 157), (.tmp 158)], (some 159), 6, false, []⟩, ⟨none, .pick, [(.tmp 156), (.tmp 159), (.const (.bool false))], (some 160), 7, false, []⟩, ⟨none, .mov, [(.tmp 160)], (some 161), 8, false, []⟩, ⟨(some (161, true)), .mov, [(.tmp 21)], (some 162), 9, false, []⟩, ⟨(some (161, true)), .mov, [(.tmp 23)], (some 163), 10, false, []⟩, ⟨(some (161, true)), (.bin .eql 0), [(.tmp 162), (.tmp 163)], (some 164), 11, false, []⟩, ⟨none, .pick, [(.tmp 161), (.tmp 164), (.const (.bool false))], (some 165), 12, false, []⟩, ⟨none, .mov, [(.tmp 165)], (some 166), 13, false, []⟩, ⟨(some (166, true)), .mov, [(.tmp 22)], (some 167), 14, false, []⟩, ⟨(some (166, true)), .mov, [(.tmp 24)], (some 168), 15, false, []⟩, ⟨(some (166, true)), (.bin .eql 0), [(.tmp 167), (.tmp 168)], (some 169), 16, false, []⟩, ⟨none, .pick, [(.tmp 166), (.tmp 169), (.const (.bool false))], (some 170), 17, false, []⟩, ⟨none, .mov, [(.tmp 170)], (some 171), 18, false, []⟩, ⟨(some (171, true)), (.ld (some 3)), [(.tmp 12)], (some 172), 19, false, []⟩, ⟨(some (171, true)), .mov, [(.tmp 14)], (some 173), 20, false, []⟩, ⟨(some (171, true)), (.ld (some 3)), [(.tmp 12)], (some 175), 22, true, []⟩, ⟨(some (171, true)), .mov, [(.tmp 14)], (some 176), 23, false, []⟩, ⟨(some (171, true)), .call, [(.func 31), (.tmp 172), (.tmp 173)], (some 174), 21, false, [22]⟩, ⟨(some (171, true)), .call, [(.func 32), (.tmp 175), (.tmp 176)], (some 177), 24, false, []⟩, ⟨(some (171, true)), (.bin .eql 0), [(.tmp 174), (.tmp 177)], (some 178), 25, false, []⟩, ⟨none, .pick, [(.tmp 171), (.tmp 178), (.const (.bool false))], (some 179), 26, false, []⟩, ⟨none, .mov, [(.tmp 179)], (some 180), 27, false, []⟩, ⟨(some (180, true)), (.ld (some 3)), [(.tmp 12)], (some 181), 28, false, []⟩, ⟨(some (180, true)), (.ld (some 3)), [(.tmp 12)], (some 183), 30, true, []⟩, ⟨(some (180, true)), .call, [(.func 33), (.tmp 181)], (some 182), 29, false, [30]⟩, ⟨(some (180, true)), .call, [(.func 34), (.tmp 183)], (some 184), 31, false, []⟩, ⟨(some (180, true)), (.bin .eql 0), [(.tmp 182), (.tmp 184)], (some 185), 32, false, []⟩, ⟨none, .pick, [(.tmp 180), (.tmp 185), (.const (.bool false))], (some 186), 33, false, []⟩, ⟨none, .mov, [(.tmp 186)], (some 187), 34, false, []⟩, ⟨(some (187, true)), (.ld (some 3)), [(.tmp 12)], (some 188), 35, false, []⟩, ⟨(some (187, true)), .mov, [(.tmp 14)], (some 189), 36, false, []⟩, ⟨(some (187, true)), (.ld (some 3)), [(.tmp 12)], (some 191), 38, true, []⟩, ⟨(some (187, true)), .mov, [(.tmp 14)], (some 192), 39, false, []⟩, ⟨(some (187, true)), .call, [(.func 35), (.tmp 188), (.tmp 189)], (some 190), 37, false, [38]⟩, ⟨(some (187, true)), .call, [(.func 36), (.tmp 191), (.tmp 192)], (some 193), 40, false, []⟩, ⟨(some (187, true)), (.bin .eql 0), [(.tmp 190), (.tmp 193)], (some 194), 41, false, []⟩, ⟨none, .pick, [(.tmp 187), (.tmp 194), (.const (.bool false))], (some 195), 42, false, []⟩, ⟨none, .mov, [(.tmp 195)], (some 196), 43, false, []⟩, ⟨(some (196, true)), .mov, [(.tmp 7)], (some 197), 44, false, []⟩, ⟨none, .pick, [(.tmp 196), (.tmp 197), (.const (.bool false))], (some 198), 45, false, []⟩, ⟨none, .mov, [(.tmp 198)], (some 6), 46, false, []⟩]) .ret))))))))))
theorem xf3_cut : xf3 = ⟨199, [(.tmp 6)], (.seq (.reg [⟨none, (.box 22), [(.tmp 1)], (some 4), 0, false, []⟩, ⟨none, .mov, [(.const (.bool false))], (some 6), 1, false, []⟩]) (.seq (.reg [⟨none, .call, [(.func 9)], (some 25), 0, false, []⟩, ⟨none, .mov, [(.tmp 25)], (some 7), 1, false, []⟩]) (.seq (.seq (.reg [⟨none, .mov, [(.tmp 7)], (some 26), 0, false, []⟩, ⟨none, (.un .not), [(.tmp 26)], (some 27), 1, false, []⟩]) (.cond (.tmp 27) (.seq (.reg [⟨none, .mov, [(.const (.bool false))], (some 6), 0, false, []⟩]) .ret) .skip)) (.seq (.reg [⟨none, .mov, [(.tmp 0)], (some 29), 0, false, []⟩, ⟨none, .call, [(.func 10), (.tmp 29)], (some 30), 1, false, []⟩, ⟨none, .mov, [(.tmp 30)], (some 28), 2, false, []⟩, ⟨none, (.ext 0), [(.tmp 28)], (some 31), 3, false, []⟩, ⟨none, (.ext 1), [(.tmp 28)], (some 32), 4, false, []⟩, ⟨none, (.new [(nv 0), (nv 0), (.slice none 0 0)] 26), [], (some 8), 5, false, []⟩, ⟨none, (.st 3), [(.tmp 8), (.tmp 31)], none, 6, false, []⟩, ⟨none, .mov, [(.tmp 32)], (some 9), 7, false, []⟩]) (.seq (.reg [⟨none, .mov, [(.tmp 0)], (some 34), 0, false, []⟩, ⟨none, .call, [(.func 11), (.tmp 34)], (some 35), 1, false, []⟩, ⟨none, .mov, [(.tmp 35)], (some 33), 2, false, []⟩, ⟨none, (.ext 0), [(.tmp 33)], (some 36), 3, false, []⟩, ⟨none, (.ext 1), [(.tmp 33)], (some 37), 4, false, []⟩, ⟨none, (.new [(nv 0), (nv 0), (.slice none 0 0)] 26), [], (some 10), 5, false, []⟩, ⟨none, (.st 3), [(.tmp 10), (.tmp 36)], none, 6, false, []⟩, ⟨none, .mov, [(.tmp 37)], (some 11), 7, false, []⟩]) (.seq (.seq (.reg [⟨none, .mov, [(.tmp 9)], (some 38), 0, false, []⟩, ⟨none, .mov, [(.tmp 11)], (some 39), 1, false, []⟩, ⟨none, (.bin .neq 0), [(.tmp 38), (.tmp 39)], (some 40), 2, false, []⟩, ⟨none, .mov, [(.tmp 40)], (some 41), 3, false, []⟩, ⟨(some (41, false)), (.ld (some 3)), [(.tmp 8)], (some 42), 4, false, []⟩, ⟨(some (41, false)), (.ld (some 3)), [(.tmp 10)], (some 43), 5, false, []⟩, ⟨(some (41, false)), .call, [(.func 12), (.tmp 42), (.tmp 43)], (some 44), 6, false, []⟩, ⟨(some (41, false)), (.un .not), [(.tmp 44)], (some 45), 7, false, []⟩, ⟨none, .pick, [(.tmp 41), (.const (.bool true)), (.tmp 45)], (some 46), 8, false, []⟩, ⟨none, .mov, [(.tmp 46)], (some 47), 9, false, []⟩, ⟨(some (47, false)), (.ld (some 3)), [(.tmp 8)], (some 48), 10, false, []⟩, ⟨(some (47, false)), .call, [(.func 13), (.tmp 48)], (some 49), 11, false, []⟩, ⟨(some (47, false)), .mov, [(.tmp 11)], (some 50), 12, false, []⟩, ⟨(some (47, false)), (.bin .eql 0), [(.tmp 50), (.const (nv 0))], (some 51), 13, false, []⟩, ⟨(some (47, false)), (.bin .neq 1), [(.tmp 49), (.tmp 51)], (some 52), 14, false, []⟩, ⟨none, .pick, [(.tmp 47), (.const (.bool true)), (.tmp 52)], (some 53), 15, false, []⟩]) (.cond (.tmp 53) (.seq (.reg [⟨none, .mov, [(.const (.bool false))], (some 6), 0, false, []⟩]) .ret) .skip)) tail3))))))⟩ := _root_.id rfl

theorem match_tail {x a b0 c : Nat} {n : Int} {s : St} {H : AH} {b : Nat} (hx : x < 256) (ha : a < 256) (hb0 : b0 < 256) (hc : c < 256) (s2 : s.env 2 = .int .i64 n) (s4 : s.env 4 = .pointer (some ⟨b, 0, none⟩)) (s7 : s.env 7 = .bool true) (sds : s.ds = [])
    (hb : H[b]? = some (.cells [.int .u8 x, .int .u8 a, .int .u8 b0, .int .u8 c] 22 none false)) : @XZ Try.prog 199 none tail3 ⟨s⟩ ⟨H⟩ ⟨bodyX [.tmp 6] (fun v _ => v = .bool true)⟩ := by
  have hb2 := fun (Y : AH) => get_old (L := Y) hb
  simp (disch := (first | omega | (simp only [List.length_map]; omega) | (simp only [List.length_map, List.length_set, List.length_replicate, List.length_append, List.length_cons, List.length_nil] <;> omega) | (simp only [all_nv]; done) | rfl)) only [↓stPre, stOwn, stNat, stList, stProp, Nat.reduceEqDiff, Nat.reduceLT, Nat.reduceLeDiff, ↓reduceIte, eq_self, true_implies, false_implies, ite_true, ite_false, if_true, if_false, ne_eq, tail3, s2, s4, s7, sds, hb]
  refine FZ.mono (of_spec hx) ?_
  rintro _ _ ⟨p, e, m, _, _, ht, _, rfl, rfl⟩
  obtain ⟨p1, e1, m1, g, E, fs, ht1, F⟩ := fm_at (x % 27) (Nat.mod_lt _ (by omega))
  rw [ht] at ht1
  cases ht1
  have hq := F.q
  have hp := F.hp
  have he6 := F.e6
  have hq2 := F.q2
  have hp64 : p ≤ 64 := by have := pow_le64 (k := 1) F.p2 F.e1 F.q; simpa using this
  simp (disch := (first | omega | (simp only [List.length_map]; omega) | (simp only [List.length_map, List.length_set, List.length_replicate, List.length_append, List.length_cons, List.length_nil] <;> omega) | (simp only [all_nv]; done) | rfl)) only [↓stPre, stOwn, stNat, stList, stProp, Nat.reduceEqDiff, Nat.reduceLT, Nat.reduceLeDiff, ↓reduceIte, eq_self, true_implies, false_implies, ite_true, ite_false, if_true, if_false, ne_eq, stB_fld, Nat.reduceAdd, s2, s4, s7, sds, hb2]
  refine FZ.use (rsize_spec F.p2 F.q) ?_
  simp (disch := (first | omega | (simp only [List.length_map]; omega) | (simp only [List.length_map, List.length_set, List.length_replicate, List.length_append, List.length_cons, List.length_nil] <;> omega) | (simp only [all_nv]; done) | rfl)) only [↓stPre, stOwn, stNat, stList, stProp, Nat.reduceEqDiff, Nat.reduceLT, Nat.reduceLeDiff, ↓reduceIte, eq_self, true_implies, false_implies, ite_true, ite_false, if_true, if_false, ne_eq, wrapN, s2, s4, s7, sds, hb2]
  have hA : a % p ^ e < p ^ e := Nat.mod_lt _ (by omega)
  have hB : b0 % p ^ e < p ^ e := Nat.mod_lt _ (by omega)
  generalize a % p ^ e = A at *
  generalize b0 % p ^ e = B at *
  have bA : A < 1000 := by omega
  have bB : B < 1000 := by omega
  refine FZ.use (changed_spec get_new0 F.len F.lt F.p2 hp64 F.e1 F.e6 hc) ?_
  obtain ⟨d1, d2, d3⟩ := chg_bd (p := p) (r := c % 5) he6 F.len
  have hodd := oddR_at (x % 27) (c % 5) p e m (Nat.mod_lt _ (by omega)) (Nat.mod_lt _ (by omega)) ht
  generalize chg p e m (c % 5) = C at *
  obtain ⟨p', e', m'⟩ := C
  simp only at d1 d2 d3 hodd
  simp (disch := (first | omega | (simp only [List.length_map]; omega) | (simp only [List.length_map, List.length_set, List.length_replicate, List.length_append, List.length_cons, List.length_nil] <;> omega) | (simp only [all_nv]; done) | rfl)) only [↓stPre, stOwn, stNat, stList, stProp, Nat.reduceEqDiff, Nat.reduceLT, Nat.reduceLeDiff, ↓reduceIte, eq_self, true_implies, false_implies, ite_true, ite_false, if_true, if_false, ne_eq, s2, s4, s7, sds, hb2, stB_fld, Nat.reduceAdd]
  refine FZ.use (valid_spec (get_new.trans rfl) rfl (by omega) (by omega) (by omega)) ?_
  rw [hodd]
  simp (disch := (first | omega | (simp only [List.length_map]; omega) | (simp only [List.length_map, List.length_set, List.length_replicate, List.length_append, List.length_cons, List.length_nil] <;> omega) | (simp only [all_nv]; done) | rfl)) only [↓stPre, stOwn, stNat, stList, stProp, Nat.reduceEqDiff, Nat.reduceLT, Nat.reduceLeDiff, ↓reduceIte, eq_self, true_implies, false_implies, ite_true, ite_false, if_true, if_false, ne_eq, s2, s4, s7, sds, hb2]
  refine FZ.use (rvalid_spec (get_new.trans rfl) rfl (by omega) (by omega) (by omega)) ?_
  simp (disch := (first | omega | (simp only [List.length_map]; omega) | (simp only [List.length_map, List.length_set, List.length_replicate, List.length_append, List.length_cons, List.length_nil] <;> omega) | (simp only [all_nv]; done) | rfl)) only [↓stPre, stOwn, stNat, stList, stProp, Nat.reduceEqDiff, Nat.reduceLT, Nat.reduceLeDiff, ↓reduceIte, eq_self, true_implies, false_implies, ite_true, ite_false, if_true, if_false, ne_eq, s2, s4, s7, sds, hb2, beq_self_eq_true, asNB_undef, asB_undef]
  refine FZ.use (size_spec F.p2 F.e1 F.e6 rfl F.q) ?_
  simp (disch := (first | omega | (simp only [List.length_map]; omega) | (simp only [List.length_map, List.length_set, List.length_replicate, List.length_append, List.length_cons, List.length_nil] <;> omega) | (simp only [all_nv]; done) | rfl)) only [↓stPre, stOwn, stNat, stList, stProp, Nat.reduceEqDiff, Nat.reduceLT, Nat.reduceLeDiff, ↓reduceIte, eq_self, true_implies, false_implies, ite_true, ite_false, if_true, if_false, ne_eq, s2, s4, s7, sds, hb2, beq_self_eq_true, asNB_undef, asB_undef]
  refine FZ.use (add_spec F.p2 F.e1 F.e6 rfl F.q bA bB) ?_
  simp (disch := (first | omega | (simp only [List.length_map]; omega) | (simp only [List.length_map, List.length_set, List.length_replicate, List.length_append, List.length_cons, List.length_nil] <;> omega) | (simp only [all_nv]; done) | rfl)) only [↓stPre, stOwn, stNat, stList, stProp, Nat.reduceEqDiff, Nat.reduceLT, Nat.reduceLeDiff, ↓reduceIte, eq_self, true_implies, false_implies, ite_true, ite_false, if_true, if_false, ne_eq, s2, s4, s7, sds, hb2, beq_self_eq_true, asNB_undef, asB_undef]
  refine FZ.use (radd_spec F.p2 F.e1 F.e6 F.q bA bB) ?_
  simp (disch := (first | omega | (simp only [List.length_map]; omega) | (simp only [List.length_map, List.length_set, List.length_replicate, List.length_append, List.length_cons, List.length_nil] <;> omega) | (simp only [all_nv]; done) | rfl)) only [↓stPre, stOwn, stNat, stList, stProp, Nat.reduceEqDiff, Nat.reduceLT, Nat.reduceLeDiff, ↓reduceIte, eq_self, true_implies, false_implies, ite_true, ite_false, if_true, if_false, ne_eq, s2, s4, s7, sds, hb2, beq_self_eq_true, asNB_undef, asB_undef]
  refine FZ.use (sub_spec F.p2 F.e1 F.e6 rfl F.q bA bB) ?_
  simp (disch := (first | omega | (simp only [List.length_map]; omega) | (simp only [List.length_map, List.length_set, List.length_replicate, List.length_append, List.length_cons, List.length_nil] <;> omega) | (simp only [all_nv]; done) | rfl)) only [↓stPre, stOwn, stNat, stList, stProp, Nat.reduceEqDiff, Nat.reduceLT, Nat.reduceLeDiff, ↓reduceIte, eq_self, true_implies, false_implies, ite_true, ite_false, if_true, if_false, ne_eq, s2, s4, s7, sds, hb2, beq_self_eq_true, asNB_undef, asB_undef]
  refine FZ.use (rsubM F.p2 F.e1 F.e6 F.q bA bB) ?_
  simp (disch := (first | omega | (simp only [List.length_map]; omega) | (simp only [List.length_map, List.length_set, List.length_replicate, List.length_append, List.length_cons, List.length_nil] <;> omega) | (simp only [all_nv]; done) | rfl)) only [↓stPre, stOwn, stNat, stList, stProp, Nat.reduceEqDiff, Nat.reduceLT, Nat.reduceLeDiff, ↓reduceIte, eq_self, true_implies, false_implies, ite_true, ite_false, if_true, if_false, ne_eq, s2, s4, s7, sds, hb2, beq_self_eq_true, asNB_undef, asB_undef]
  refine FZ.use (mul_spec get_new0 F.len F.lt F.p2 F.e1 F.e6 F.q bA bB) ?_
  simp (disch := (first | omega | (simp only [List.length_map]; omega) | (simp only [List.length_map, List.length_set, List.length_replicate, List.length_append, List.length_cons, List.length_nil] <;> omega) | (simp only [all_nv]; done) | rfl)) only [↓stPre, stOwn, stNat, stList, stProp, Nat.reduceEqDiff, Nat.reduceLT, Nat.reduceLeDiff, ↓reduceIte, eq_self, true_implies, false_implies, ite_true, ite_false, if_true, if_false, ne_eq, s2, s4, s7, sds, hb2, beq_self_eq_true, asNB_undef, asB_undef]
  refine FZ.use (rmulM F get_new0 hA hB) ?_
  simp (disch := (first | omega | (simp only [List.length_map]; omega) | (simp only [List.length_map, List.length_set, List.length_replicate, List.length_append, List.length_cons, List.length_nil] <;> omega) | (simp only [all_nv]; done) | rfl)) only [↓stPre, stOwn, stNat, stList, stProp, Nat.reduceEqDiff, Nat.reduceLT, Nat.reduceLeDiff, ↓reduceIte, eq_self, true_implies, false_implies, ite_true, ite_false, if_true, if_false, ne_eq, s2, s4, s7, sds, hb2, beq_self_eq_true, asNB_undef, asB_undef]
  refine FZ.use (neg_spec F.p2 F.e1 F.e6 rfl F.q bA) ?_
  simp (disch := (first | omega | (simp only [List.length_map]; omega) | (simp only [List.length_map, List.length_set, List.length_replicate, List.length_append, List.length_cons, List.length_nil] <;> omega) | (simp only [all_nv]; done) | rfl)) only [↓stPre, stOwn, stNat, stList, stProp, Nat.reduceEqDiff, Nat.reduceLT, Nat.reduceLeDiff, ↓reduceIte, eq_self, true_implies, false_implies, ite_true, ite_false, if_true, if_false, ne_eq, s2, s4, s7, sds, hb2, beq_self_eq_true, asNB_undef, asB_undef]
  refine FZ.use (rnegM F.p2 F.e1 F.e6 F.q bA) ?_
  simp (disch := (first | omega | (simp only [List.length_map]; omega) | (simp only [List.length_map, List.length_set, List.length_replicate, List.length_append, List.length_cons, List.length_nil] <;> omega) | (simp only [all_nv]; done) | rfl)) only [↓stPre, stOwn, stNat, stList, stProp, Nat.reduceEqDiff, Nat.reduceLT, Nat.reduceLeDiff, ↓reduceIte, eq_self, true_implies, false_implies, ite_true, ite_false, if_true, if_false, ne_eq, s2, s4, s7, sds, hb2, beq_self_eq_true, asNB_undef, asB_undef]
  refine FZ.use (inv_spec get_new0 F.len F.lt F.p2 F.e1 F.e6 F.q bA) ?_
  simp (disch := (first | omega | (simp only [List.length_map]; omega) | (simp only [List.length_map, List.length_set, List.length_replicate, List.length_append, List.length_cons, List.length_nil] <;> omega) | (simp only [all_nv]; done) | rfl)) only [↓stPre, stOwn, stNat, stList, stProp, Nat.reduceEqDiff, Nat.reduceLT, Nat.reduceLeDiff, ↓reduceIte, eq_self, true_implies, false_implies, ite_true, ite_false, if_true, if_false, ne_eq, s2, s4, s7, sds, hb2, beq_self_eq_true, asNB_undef, asB_undef]
  refine FZ.use (rinv_spec F get_new0 hA) ?_
  simp (disch := (first | omega | (simp only [List.length_map]; omega) | (simp only [List.length_map, List.length_set, List.length_replicate, List.length_append, List.length_cons, List.length_nil] <;> omega) | (simp only [all_nv]; done) | rfl)) only [↓stPre, stOwn, stNat, stList, stProp, Nat.reduceEqDiff, Nat.reduceLT, Nat.reduceLeDiff, ↓reduceIte, eq_self, true_implies, false_implies, ite_true, ite_false, if_true, if_false, ne_eq, s2, s4, s7, sds, hb2, beq_self_eq_true, asNB_undef, asB_undef]
  refine FZ.use (pow_spec get_new0 F.len F.lt F.p2 F.e1 F.e6 F.q bA) ?_
  simp (disch := (first | omega | (simp only [List.length_map]; omega) | (simp only [List.length_map, List.length_set, List.length_replicate, List.length_append, List.length_cons, List.length_nil] <;> omega) | (simp only [all_nv]; done) | rfl)) only [↓stPre, stOwn, stNat, stList, stProp, Nat.reduceEqDiff, Nat.reduceLT, Nat.reduceLeDiff, ↓reduceIte, eq_self, true_implies, false_implies, ite_true, ite_false, if_true, if_false, ne_eq, s2, s4, s7, sds, hb2, beq_self_eq_true, asNB_undef, asB_undef]
  refine FZ.use (rpow30_spec F get_new0 hA) ?_
  simp (disch := (first | omega | (simp only [List.length_map]; omega) | (simp only [List.length_map, List.length_set, List.length_replicate, List.length_append, List.length_cons, List.length_nil] <;> omega) | (simp only [all_nv]; done) | rfl)) only [↓stPre, stOwn, stNat, stList, stProp, Nat.reduceEqDiff, Nat.reduceLT, Nat.reduceLeDiff, ↓reduceIte, eq_self, true_implies, false_implies, ite_true, ite_false, if_true, if_false, ne_eq, s2, s4, s7, sds, hb2, beq_self_eq_true, asNB_undef, asB_undef]
  refine FZ.use (order_spec F.toFT get_new0 hA F.fac) ?_
  simp (disch := (first | omega | (simp only [List.length_map]; omega) | (simp only [List.length_map, List.length_set, List.length_replicate, List.length_append, List.length_cons, List.length_nil] <;> omega) | (simp only [all_nv]; done) | rfl)) only [↓stPre, stOwn, stNat, stList, stProp, Nat.reduceEqDiff, Nat.reduceLT, Nat.reduceLeDiff, ↓reduceIte, eq_self, true_implies, false_implies, ite_true, ite_false, if_true, if_false, ne_eq, s2, s4, s7, sds, hb2, beq_self_eq_true, asNB_undef, asB_undef]
  refine FZ.use (rorder_spec F get_new0 hA) ?_
  simp (disch := (first | omega | (simp only [List.length_map]; omega) | (simp only [List.length_map, List.length_set, List.length_replicate, List.length_append, List.length_cons, List.length_nil] <;> omega) | (simp only [all_nv]; done) | rfl)) only [↓stPre, stOwn, stNat, stList, stProp, Nat.reduceEqDiff, Nat.reduceLT, Nat.reduceLeDiff, ↓reduceIte, eq_self, true_implies, false_implies, ite_true, ite_false, if_true, if_false, ne_eq, s2, s4, s7, sds, hb2, beq_self_eq_true, asNB_undef, asB_undef]
  refine FZ.use (prim_spec F.toFT get_new0 F.fac F.g_pos F.exs.2.2.2 F.ord_g (fun x => F.ord_lt x)) ?_
  simp (disch := (first | omega | (simp only [List.length_map]; omega) | (simp only [List.length_map, List.length_set, List.length_replicate, List.length_append, List.length_cons, List.length_nil] <;> omega) | (simp only [all_nv]; done) | rfl)) only [↓stPre, stOwn, stNat, stList, stProp, Nat.reduceEqDiff, Nat.reduceLT, Nat.reduceLeDiff, ↓reduceIte, eq_self, true_implies, false_implies, ite_true, ite_false, if_true, if_false, ne_eq, s2, s4, s7, sds, hb2, beq_self_eq_true, asNB_undef, asB_undef]
  refine FZ.use (rprim_spec F get_new0) ?_
  simp (disch := (first | omega | (simp only [List.length_map]; omega) | (simp only [List.length_map, List.length_set, List.length_replicate, List.length_append, List.length_cons, List.length_nil] <;> omega) | (simp only [all_nv]; done) | rfl)) only [↓stPre, stOwn, stNat, stList, stProp, Nat.reduceEqDiff, Nat.reduceLT, Nat.reduceLeDiff, ↓reduceIte, eq_self, true_implies, false_implies, ite_true, ite_false, if_true, if_false, ne_eq, s2, s4, s7, sds, hb2, beq_self_eq_true, asNB_undef, asB_undef]
  refine FZ.use (trace_spec F.toFT get_new0 hA) ?_
  simp (disch := (first | omega | (simp only [List.length_map]; omega) | (simp only [List.length_map, List.length_set, List.length_replicate, List.length_append, List.length_cons, List.length_nil] <;> omega) | (simp only [all_nv]; done) | rfl)) only [↓stPre, stOwn, stNat, stList, stProp, Nat.reduceEqDiff, Nat.reduceLT, Nat.reduceLeDiff, ↓reduceIte, eq_self, true_implies, false_implies, ite_true, ite_false, if_true, if_false, ne_eq, s2, s4, s7, sds, hb2, beq_self_eq_true, asNB_undef, asB_undef]
  refine FZ.use (rtrace_spec F get_new0 hA) ?_
  simp (disch := (first | omega | (simp only [List.length_map]; omega) | (simp only [List.length_map, List.length_set, List.length_replicate, List.length_append, List.length_cons, List.length_nil] <;> omega) | (simp only [all_nv]; done) | rfl)) only [↓stPre, stOwn, stNat, stList, stProp, Nat.reduceEqDiff, Nat.reduceLT, Nat.reduceLeDiff, ↓reduceIte, eq_self, true_implies, false_implies, ite_true, ite_false, if_true, if_false, ne_eq, s2, s4, s7, sds, hb2, beq_self_eq_true, asNB_undef, asB_undef, tail3]

theorem match_spec {q n : Int} {x a b0 c : Nat} {H : AH} (hx : x < 256) (ha : a < 256) (hb0 : b0 < 256) (hc : c < 256) :
    FN Try.prog 3 [.int .i64 q, .agg [.int .u8 x, .int .u8 a, .int .u8 b0, .int .u8 c].toArray, .int .i64 n] H (fun v _ => v = .bool true) := by
  refine FN.of_compZ mixed xf3_ok (Nat.le_of_ble_eq_true rfl) ?_
  simp (disch := (first | omega | (simp only [List.length_map]; omega) | (simp only [List.length_map, List.length_set, List.length_replicate, List.length_append, List.length_cons, List.length_nil] <;> omega) | (simp only [all_nv]; done) | rfl)) only [↓stPre, stOwn, stNat, stList, stProp, Nat.reduceEqDiff, Nat.reduceLT, Nat.reduceLeDiff, ↓reduceIte, eq_self, true_implies, false_implies, ite_true, ite_false, if_true, if_false, ne_eq, xf3_cut]
  refine FZ.use ex_spec ?_
  simp (disch := (first | omega | (simp only [List.length_map]; omega) | (simp only [List.length_map, List.length_set, List.length_replicate, List.length_append, List.length_cons, List.length_nil] <;> omega) | (simp only [all_nv]; done) | rfl)) only [↓stPre, stOwn, stNat, stList, stProp, Nat.reduceEqDiff, Nat.reduceLT, Nat.reduceLeDiff, ↓reduceIte, eq_self, true_implies, false_implies, ite_true, ite_false, if_true, if_false, ne_eq]
  by_cases hq : q < 2 ∨ 64 < q
  · refine FZ.use (makeF_spec hq) ?_
    simp (disch := (first | omega | (simp only [List.length_map]; omega) | (simp only [List.length_map, List.length_set, List.length_replicate, List.length_append, List.length_cons, List.length_nil] <;> omega) | (simp only [all_nv]; done) | rfl)) only [↓stPre, stOwn, stNat, stList, stProp, Nat.reduceEqDiff, Nat.reduceLT, Nat.reduceLeDiff, ↓reduceIte, eq_self, true_implies, false_implies, ite_true, ite_false, if_true, if_false, ne_eq, stB_fld0, Nat.reduceAdd]
    refine FZ.use (rmakeF_spec hq) ?_
    simp (disch := (first | omega | (simp only [List.length_map]; omega) | (simp only [List.length_map, List.length_set, List.length_replicate, List.length_append, List.length_cons, List.length_nil] <;> omega) | (simp only [all_nv]; done) | rfl)) only [↓stPre, stOwn, stNat, stList, stProp, Nat.reduceEqDiff, Nat.reduceLT, Nat.reduceLeDiff, ↓reduceIte, eq_self, true_implies, false_implies, ite_true, ite_false, if_true, if_false, ne_eq, stB_fld0, Nat.reduceAdd]
    refine FZ.known same0 ?_
    simp (disch := (first | omega | (simp only [List.length_map]; omega) | (simp only [List.length_map, List.length_set, List.length_replicate, List.length_append, List.length_cons, List.length_nil] <;> omega) | (simp only [all_nv]; done) | rfl)) only [↓stPre, stOwn, stNat, stList, stProp, Nat.reduceEqDiff, Nat.reduceLT, Nat.reduceLeDiff, ↓reduceIte, eq_self, true_implies, false_implies, ite_true, ite_false, if_true, if_false, ne_eq, KRes.mk, KRes.hp]
    refine FZ.known valid0 ?_
    simp (disch := (first | omega | (simp only [List.length_map]; omega) | (simp only [List.length_map, List.length_set, List.length_replicate, List.length_append, List.length_cons, List.length_nil] <;> omega) | (simp only [all_nv]; done) | rfl)) only [↓stPre, stOwn, stNat, stList, stProp, Nat.reduceEqDiff, Nat.reduceLT, Nat.reduceLeDiff, ↓reduceIte, eq_self, true_implies, false_implies, ite_true, ite_false, if_true, if_false, ne_eq, KRes.mk, KRes.hp, beq_self_eq_true]
    exact match_tail (n := n) hx ha hb0 hc rfl rfl rfl rfl get_new0
  · obtain ⟨Q, rfl⟩ : ∃ Q : Nat, q = Q := ⟨q.toNat, by omega⟩
    have hk10 := make10 Q (by omega)
    have hk11 := make11 Q (by omega)
    have hlen := mkT_len Q (by omega)
    have hval := mk_at Q (by omega)
    cases hT : mkT.getD Q none with
    | none =>
      rw [hT] at hk10 hk11
      refine FZ.known hk10 ?_
      simp (disch := (first | omega | (simp only [List.length_map]; omega) | (simp only [List.length_map, List.length_set, List.length_replicate, List.length_append, List.length_cons, List.length_nil] <;> omega) | (simp only [all_nv]; done) | rfl)) only [↓stPre, stOwn, stNat, stList, stProp, Nat.reduceEqDiff, Nat.reduceLT, Nat.reduceLeDiff, ↓reduceIte, eq_self, true_implies, false_implies, ite_true, ite_false, if_true, if_false, ne_eq, mkR, KRes.mk, KRes.hp, stB_fld0, Nat.reduceAdd]
      refine FZ.known hk11 ?_
      simp (disch := (first | omega | (simp only [List.length_map]; omega) | (simp only [List.length_map, List.length_set, List.length_replicate, List.length_append, List.length_cons, List.length_nil] <;> omega) | (simp only [all_nv]; done) | rfl)) only [↓stPre, stOwn, stNat, stList, stProp, Nat.reduceEqDiff, Nat.reduceLT, Nat.reduceLeDiff, ↓reduceIte, eq_self, true_implies, false_implies, ite_true, ite_false, if_true, if_false, ne_eq, mkR, KRes.mk, KRes.hp, stB_fld0, Nat.reduceAdd]
      refine FZ.known same0 ?_
      simp (disch := (first | omega | (simp only [List.length_map]; omega) | (simp only [List.length_map, List.length_set, List.length_replicate, List.length_append, List.length_cons, List.length_nil] <;> omega) | (simp only [all_nv]; done) | rfl)) only [↓stPre, stOwn, stNat, stList, stProp, Nat.reduceEqDiff, Nat.reduceLT, Nat.reduceLeDiff, ↓reduceIte, eq_self, true_implies, false_implies, ite_true, ite_false, if_true, if_false, ne_eq, KRes.mk, KRes.hp]
      refine FZ.known valid0 ?_
      simp (disch := (first | omega | (simp only [List.length_map]; omega) | (simp only [List.length_map, List.length_set, List.length_replicate, List.length_append, List.length_cons, List.length_nil] <;> omega) | (simp only [all_nv]; done) | rfl)) only [↓stPre, stOwn, stNat, stList, stProp, Nat.reduceEqDiff, Nat.reduceLT, Nat.reduceLeDiff, ↓reduceIte, eq_self, true_implies, false_implies, ite_true, ite_false, if_true, if_false, ne_eq, KRes.mk, KRes.hp, beq_self_eq_true]
      exact match_tail (n := n) hx ha hb0 hc rfl rfl rfl rfl get_new0
    | some w =>
      obtain ⟨p, e, m⟩ := w
      rw [hT] at hk10 hk11
      obtain ⟨l1, l2, l3, l4⟩ := hlen _ hT
      have hv := hval _ hT
      simp only at l1 l2 l3 l4 hv
      refine FZ.known hk10 ?_
      simp (disch := (first | omega | (simp only [List.length_map]; omega) | (simp only [List.length_map, List.length_set, List.length_replicate, List.length_append, List.length_cons, List.length_nil] <;> omega) | (simp only [all_nv]; done) | rfl)) only [↓stPre, stOwn, stNat, stList, stProp, Nat.reduceEqDiff, Nat.reduceLT, Nat.reduceLeDiff, ↓reduceIte, eq_self, true_implies, false_implies, ite_true, ite_false, if_true, if_false, ne_eq, mkR, KRes.mk, KRes.hp, stB_fld, Nat.reduceAdd]
      refine FZ.known hk11 ?_
      simp (disch := (first | omega | (simp only [List.length_map]; omega) | (simp only [List.length_map, List.length_set, List.length_replicate, List.length_append, List.length_cons, List.length_nil] <;> omega) | (simp only [all_nv]; done) | rfl)) only [↓stPre, stOwn, stNat, stList, stProp, Nat.reduceEqDiff, Nat.reduceLT, Nat.reduceLeDiff, ↓reduceIte, eq_self, true_implies, false_implies, ite_true, ite_false, if_true, if_false, ne_eq, mkR, KRes.mk, KRes.hp, stB_fld, Nat.reduceAdd]
      refine FZ.use (same_spec (X := m) (Y := m) (get_new.trans rfl) (get_new.trans rfl) l1.symm l1.symm (by omega)) ?_
      rw [show (decide (p = p) && decide (e = e) && decide (m = m)) = true by simp]
      simp (disch := (first | omega | (simp only [List.length_map]; omega) | (simp only [List.length_map, List.length_set, List.length_replicate, List.length_append, List.length_cons, List.length_nil] <;> omega) | (simp only [all_nv]; done) | rfl)) only [↓stPre, stOwn, stNat, stList, stProp, Nat.reduceEqDiff, Nat.reduceLT, Nat.reduceLeDiff, ↓reduceIte, eq_self, true_implies, false_implies, ite_true, ite_false, if_true, if_false, ne_eq, Nat.reduceAdd, beq_self_eq_true, asNB_undef, asB_undef]
      refine FZ.use (valid_spec (m := m) (get_new.trans rfl) l1.symm (by omega) (by omega) (by omega)) ?_
      rw [hv]
      simp (disch := (first | omega | (simp only [List.length_map]; omega) | (simp only [List.length_map, List.length_set, List.length_replicate, List.length_append, List.length_cons, List.length_nil] <;> omega) | (simp only [all_nv]; done) | rfl)) only [↓stPre, stOwn, stNat, stList, stProp, Nat.reduceEqDiff, Nat.reduceLT, Nat.reduceLeDiff, ↓reduceIte, eq_self, true_implies, false_implies, ite_true, ite_false, if_true, if_false, ne_eq, beq_self_eq_true]
      exact match_tail (n := n) hx ha hb0 hc rfl rfl rfl rfl get_new0
theorem list4 {ns : List Int} (hl : ns.length = 4) : ∃ x a b c, ns = [x, a, b, c] := by
  match ns, hl with
  | [x, a, b, c], _ => exact ⟨x, a, b, c, rfl⟩
theorem match_walk (q : Int) (ns : List Int) (n : Int) (_hq : (Lit.int .i64 q).wf = true) (hl : ns.length = 4) (hw : ∀ n ∈ ns, (Lit.int .u8 n).wf = true) (_hn : (Lit.int .i64 n).wf = true) (w : World) : Calls Try.prog 3 #[.int .i64 q, .agg (ns.map (Value.int .u8)).toArray, .int .i64 n] w fun e w' => e = .returned (.bool true) ∧ RowKit.Below w.heap.size w w' := by
  obtain ⟨x, a, b, c, rfl⟩ := list4 hl
  obtain ⟨x, rfl, hx⟩ := u8_of_wf (hw x (by simp))
  obtain ⟨a, rfl, ha⟩ := u8_of_wf (hw a (by simp))
  obtain ⟨b, rfl, hb⟩ := u8_of_wf (hw b (by simp))
  obtain ⟨c, rfl, hc⟩ := u8_of_wf (hw c (by simp))
  have key := law_walk (args := [.int .i64 q, .agg [.int .u8 x, .int .u8 a, .int .u8 b, .int .u8 c].toArray, .int .i64 n]) (match_spec hx ha hb hc) (by simp [ground, scal]) w
  simp only [List.map_cons, List.map_nil]
  exact key
end Go.Sim

/- Rows' arguments that are arrays of whole numbers: taken apart, and put together. -/
namespace Go.ChangeShapes
variable {H : Type} {enc : TypeId × Value → H} {P : Program} {w : World} {base : Nat} {spare : Nat → Bool} {held : Bool}

theorem ints_read {fuel : Nat} {e : TypeId} {k : IntKind} (he : P.underlying e = some (.int k)) : ∀ (cs full : List Value) (s : Nat), full.drop s = cs → ∀ xs, ((List.range' s cs.length).mapM fun i => DataW.trod enc P w base spare held fuel e ((full.drop (i * 1)).take 1)) = some xs →
    ∃ ns : List Int, cs = ns.map (Value.int k) ∧ xs = ns.map (fun n => (.lit (.int k n), [])) ∧ ∀ n ∈ ns, (Lit.int k n).wf = true
  | [], _, _, _, xs, h => by
    simp at h
    subst h
    exact ⟨[], rfl, rfl, by simp⟩
  | c :: cs, full, s, hd, xs, h => by
    rw [List.length_cons, List.range'_succ, List.mapM_cons] at h
    rw [Nat.mul_one, hd] at h
    cases h0 : DataW.trod enc P w base spare held fuel e ((c :: cs).take 1) with
    | none => rw [h0] at h; simp at h
    | some y =>
      rw [h0] at h
      cases h1 : ((List.range' (s + 1) cs.length).mapM fun i => DataW.trod enc P w base spare held fuel e ((full.drop (i * 1)).take 1)) with
      | none => rw [h1] at h; simp at h
      | some ys =>
        rw [h1] at h
        simp at h
        obtain ⟨ns, q1, q2, q3⟩ := ints_read he cs full (s + 1) (by rw [← List.drop_drop, hd]; rfl) ys h1
        obtain ⟨n, p1, p2, p3⟩ := DataW.trod_int he h0
        simp at p1
        subst p1
        refine ⟨n :: ns, by simp [q1], ?_, ?_⟩
        · rw [← h, q2, List.map_cons]
          congr 1
        · intro x hx
          rcases List.mem_cons.1 hx with rfl | hx
          · exact p3
          · exact q3 x hx
theorem ints_lay {fuel : Nat} {e : TypeId} {k : IntKind} (he : P.underlying e = some (.int k)) : ∀ (ns : List Int) (full : List Value) (s : Nat), full.drop s = ns.map (Value.int k) → (∀ n ∈ ns, (Lit.int k n).wf = true) →
    ((List.range' s ns.length).mapM fun i => DataW.trod enc P w base spare held (fuel + 1) e ((full.drop (i * 1)).take 1)) = some (ns.map (fun n => (.lit (.int k n), [])))
  | [], _, _, _, _ => by simp
  | n :: ns, full, s, hd, hw => by
    rw [List.length_cons, List.range'_succ, List.mapM_cons, Nat.mul_one, hd]
    have h0 : DataW.trod enc P w base spare held (fuel + 1) e ((List.map (Value.int k) (n :: ns)).take 1) = some (.lit (.int k n), []) := by
      simp [DataW.trod, he, hw n (by simp)]
    rw [h0, ints_lay he ns full (s + 1) (by rw [← List.drop_drop, hd]; rfl) (fun x hx => hw x (by simp [hx]))]
    rfl

theorem open_ints_arr {r : Reach} {b0 : Nat} {t e : TypeId} {k : IntKind} {N : Nat} {v : Value} {d : DataW H} {ps : List MemPlace} (ht : P.underlying t = some (.array N e)) (he : P.underlying e = some (.int k)) (hce : P.cellsOf e = 1) (hct : P.cellsOf t = N)
    (hval : Value.okWide P w r b0 t v) (hd : DataW.Trod enc P w base spare held t v d ps) :
    ∃ ns : List Int, ns.length = N ∧ v = .agg (ns.map (Value.int k)).toArray ∧ d = .agg (ns.map fun n => .lit (.int k n)) ∧ ps = [] ∧ ∀ n ∈ ns, (Lit.int k n).wf = true := by
  unfold Value.okWide at hval
  rw [ht] at hval
  obtain ⟨cs, rfl, hsz, _⟩ := hval
  obtain ⟨fuel, hf⟩ := hd
  cases fuel with
  | zero => simp [DataW.trod] at hf
  | succ fuel =>
    unfold DataW.trod at hf
    rw [ht] at hf
    simp only [Value.cells, hce] at hf
    rw [hct] at hsz
    have hl : cs.toList.length = N := by simpa using hsz
    rw [hct] at hf
    rw [if_pos hl] at hf
    cases hx : ((List.range N).mapM fun i => DataW.trod enc P w base spare held fuel e ((cs.toList.drop (i * 1)).take 1)) with
    | none => rw [hx] at hf; simp at hf
    | some xs =>
      rw [hx] at hf
      simp at hf
      rw [List.range_eq_range', ← hl] at hx
      obtain ⟨ns, h1, h2, h3⟩ := ints_read he cs.toList cs.toList 0 rfl xs hx
      refine ⟨ns, ?_, ?_, ?_, ?_, h3⟩
      · rw [h1] at hl; simpa using hl
      · congr 1; exact Array.ext' (by simpa using h1)
      · rw [← hf.1, h2]; simp
      · rw [← hf.2, h2]; simp
theorem shut_ints_arr {t e : TypeId} {k : IntKind} {N : Nat} {ns : List Int} (ht : P.underlying t = some (.array N e)) (he : P.underlying e = some (.int k)) (hce : P.cellsOf e = 1) (hct : P.cellsOf t = N) (hl : ns.length = N)
    (hw : ∀ n ∈ ns, (Lit.int k n).wf = true) : DataW.Trod enc P w base spare held t (.agg (ns.map (Value.int k)).toArray) (.agg (ns.map fun n => .lit (.int k n))) [] := by
  refine ⟨2, ?_⟩
  unfold DataW.trod
  rw [ht]
  have h := ints_lay (enc := enc) (P := P) (w := w) (base := base) (spare := spare) (held := held) (fuel := 0) he ns (ns.map (Value.int k)) 0 rfl hw
  rw [hl, ← List.range_eq_range'] at h
  simp only [Value.cells, hce, hct]
  rw [if_pos (by simpa using hl), h]
  simp
end Go.ChangeShapes
