/- Part of the proof: FieldQ, SimX2, FieldV. -/
import Derived.Test.YtaepmmdbhikjlaaFieldAToFieldO
import Derived.Test.YtaepmmdbhikjlaaFieldT
import Derived.Test.YtaepmmdbhikjlaaFieldL
set_option linter.unusedSimpArgs false
namespace Go.Sim
open Go Go.Proofs

/-- A power and its error. -/
def powZ (p e : Nat) (m : List Nat) (a : Nat) (n : Int) : Nat × Nat :=
  if n = 0 then (1, 0) else if a = 0 then (if n < 0 then (0, 3) else (0, 0)) else (powF p e m a (n % ((p ^ e : Nat) - 1 : Int)).toNat, 0)

theorem FN.chg {P : Program} {g : FuncId} {a1 a2 : List Value} {H : AH} {R : Value → AH → Prop} (h : FN P g a1 H R) (e : a1 = a2) : FN P g a2 H R := e ▸ h

theorem pow_spec {p e b c x : Nat} {n : Int} {m : List Nat} {H : AH} {el : TypeId} {op : Option Nat} {r : Bool} (hb : H[b]? = some (.cells (m.map nv) el op r)) (hm : m.length = e) (hmp : ∀ z ∈ m, z < p) (hp : 2 ≤ p) (he : 1 ≤ e) (he6 : e ≤ 6) (hq : p ^ e ≤ 64) (hx : x < 1000) :
    FN Try.prog 29 [fldv p e b e c, nv x, .int .i64 n] H (fun v H' => v = .tuple [nv (powZ p e m x n).1, nv (powZ p e m x n).2].toArray ∧ H' = H) := by
  have hb2 := fun (Y : AH) => get_old (L := Y) hb
  by_cases hn : n = 0
  · subst hn
    refine FN.chg (a1 := [fldv p e b e c, nv x, nv 0]) ?_ rfl
    refine FN.gc0 (FN.of_compZ mixed xf29_ok (Nat.le_of_ble_eq_true rfl) ?_)
    simp (disch := (first | omega | (simp only [List.length_map]; omega) | (simp only [List.length_map, List.length_set, List.length_replicate, List.length_append, List.length_cons, List.length_nil] <;> omega) | (simp only [all_nv]; done) | rfl)) only [↓stPre, stOwn, stNat, stList, stProp, Nat.reduceEqDiff, Nat.reduceLT, Nat.reduceLeDiff, ↓reduceIte, eq_self, true_implies, false_implies, ite_true, ite_false, if_true, if_false, ne_eq, xf29]
    simp [ground, scal, powZ]
  refine FN.gc0 (FN.of_compZ mixed xf29_ok (Nat.le_of_ble_eq_true rfl) ?_)
  by_cases hx0 : x = 0
  · subst hx0
    by_cases hneg : n < 0
    · have hnn : n < ((0 : Nat) : Int) := hneg
      have hn' : ¬ n = ((0 : Nat) : Int) := hn
      simp (disch := (first | omega | (simp only [List.length_map]; omega) | (simp only [List.length_map, List.length_set, List.length_replicate, List.length_append, List.length_cons, List.length_nil] <;> omega) | (simp only [all_nv]; done) | rfl)) only [↓stPre, stOwn, stInt, stList, stProp, Nat.reduceEqDiff, Nat.reduceLT, Nat.reduceLeDiff, ↓reduceIte, eq_self, true_implies, false_implies, ite_true, ite_false, if_true, if_false, ne_eq, xf29, hn', hnn]
      simp [ground, scal, powZ, hn, hneg]
    · have hnn : ¬ n < ((0 : Nat) : Int) := hneg
      have hn' : ¬ n = ((0 : Nat) : Int) := hn
      simp (disch := (first | omega | (simp only [List.length_map]; omega) | (simp only [List.length_map, List.length_set, List.length_replicate, List.length_append, List.length_cons, List.length_nil] <;> omega) | (simp only [all_nv]; done) | rfl)) only [↓stPre, stOwn, stInt, stList, stProp, Nat.reduceEqDiff, Nat.reduceLT, Nat.reduceLeDiff, ↓reduceIte, eq_self, true_implies, false_implies, ite_true, ite_false, if_true, if_false, ne_eq, xf29, hn', hnn]
      simp [ground, scal, powZ, hn, hneg]
  · have hn' : ¬ n = ((0 : Nat) : Int) := hn
    have hx' : ¬ (x : Int) = ((0 : Nat) : Int) := by omega
    simp (disch := (first | omega | (simp only [List.length_map]; omega) | (simp only [List.length_map, List.length_set, List.length_replicate, List.length_append, List.length_cons, List.length_nil] <;> omega) | (simp only [all_nv]; done) | rfl)) only [↓stPre, stOwn, stInt, stList, stProp, Nat.reduceEqDiff, Nat.reduceLT, Nat.reduceLeDiff, ↓reduceIte, eq_self, true_implies, false_implies, ite_true, ite_false, if_true, if_false, ne_eq, xf29, hn', hx']
    refine FZ.use (sound_spec hp he he6 rfl hq) ?_
    simp (disch := (first | omega | (simp only [List.length_map]; omega) | (simp only [List.length_map, List.length_set, List.length_replicate, List.length_append, List.length_cons, List.length_nil] <;> omega) | (simp only [all_nv]; done) | rfl)) only [↓stPre, stOwn, stInt, stList, stProp, Nat.reduceEqDiff, Nat.reduceLT, Nat.reduceLeDiff, ↓reduceIte, eq_self, true_implies, false_implies, ite_true, ite_false, if_true, if_false, ne_eq]
    refine FZ.use (size_spec hp he he6 rfl hq) ?_
    have hq2 : 2 ≤ p ^ e := Nat.le_trans hp (by simpa using Nat.pow_le_pow_right (show 0 < p by omega) he)
    simp (disch := (first | omega | (simp only [List.length_map]; omega) | (simp only [List.length_map, List.length_set, List.length_replicate, List.length_append, List.length_cons, List.length_nil] <;> omega) | (simp only [all_nv]; done) | rfl)) only [↓stPre, stOwn, stNat, stList, stProp, Nat.reduceEqDiff, Nat.reduceLT, Nat.reduceLeDiff, ↓reduceIte, eq_self, true_implies, false_implies, ite_true, ite_false, if_true, if_false, ne_eq]
    have hcast : (((p ^ e - 1 : Nat)) : Int) = ((p ^ e : Nat) - 1 : Int) := by omega
    refine FZ.use (mod_spec (by omega) (by omega)) ?_
    have h0 := Int.emod_nonneg n (show (((p ^ e - 1 : Nat)) : Int) ≠ 0 by omega)
    have h1 := Int.emod_lt_of_pos n (show (0 : Int) < ((p ^ e - 1 : Nat) : Int) by omega)
    obtain ⟨N, hN⟩ : ∃ N : Nat, n % ((p ^ e - 1 : Nat) : Int) = N := ⟨_, (Int.toNat_of_nonneg h0).symm⟩
    rw [hN] at h0 h1 ⊢
    simp (disch := (first | omega | (simp only [List.length_map]; omega) | (simp only [List.length_map, List.length_set, List.length_replicate, List.length_append, List.length_cons, List.length_nil] <;> omega) | (simp only [all_nv]; done) | rfl)) only [↓stPre, stOwn, stNat, stList, stProp, Nat.reduceEqDiff, Nat.reduceLT, Nat.reduceLeDiff, ↓reduceIte, eq_self, true_implies, false_implies, ite_true, ite_false, if_true, if_false, ne_eq]
    refine FZ.use (power_spec (hb2 _) hm hmp hp he he6 hq hx (show N < 1000000 by omega)) ?_
    simp (disch := (first | omega | (simp only [List.length_map]; omega) | (simp only [List.length_map, List.length_set, List.length_replicate, List.length_append, List.length_cons, List.length_nil] <;> omega) | (simp only [all_nv]; done) | rfl)) only [↓stPre, stOwn, stNat, stList, stProp, Nat.reduceEqDiff, Nat.reduceLT, Nat.reduceLeDiff, ↓reduceIte, eq_self, true_implies, false_implies, ite_true, ite_false, if_true, if_false, ne_eq, xf29]
    rw [hcast] at hN
    have hv : powZ p e m x n = (powF p e m x N, 0) := by unfold powZ; rw [if_neg hn, if_neg hx0, hN]; rfl
    rw [hv]
    simp [ground, scal]

theorem inv_spec {p e b c x : Nat} {m : List Nat} {H : AH} {el : TypeId} {op : Option Nat} {r : Bool} (hb : H[b]? = some (.cells (m.map nv) el op r)) (hm : m.length = e) (hmp : ∀ z ∈ m, z < p) (hp : 2 ≤ p) (he : 1 ≤ e) (he6 : e ≤ 6) (hq : p ^ e ≤ 64) (hx : x < 1000) :
    FN Try.prog 27 [fldv p e b e c, nv x] H (fun v H' => v = .tuple [nv (powZ p e m x (-1)).1, nv (powZ p e m x (-1)).2].toArray ∧ H' = H) := by
  refine FN.gc0 (FN.of_compZ mixed xf27_ok (Nat.le_of_ble_eq_true rfl) ?_)
  have hb2 := fun (Y : AH) => get_old (L := Y) hb
  simp (disch := (first | omega | (simp only [List.length_map]; omega) | (simp only [List.length_map, List.length_set, List.length_replicate, List.length_append, List.length_cons, List.length_nil] <;> omega) | (simp only [all_nv]; done) | rfl)) only [↓stPre, stOwn, stNat, stList, stProp, Nat.reduceEqDiff, Nat.reduceLT, Nat.reduceLeDiff, ↓reduceIte, eq_self, true_implies, false_implies, ite_true, ite_false, if_true, if_false, ne_eq, xf27]
  refine FZ.use (pow_spec (hb2 _) hm hmp hp he he6 hq hx) ?_
  simp (disch := (first | omega | (simp only [List.length_map]; omega) | (simp only [List.length_map, List.length_set, List.length_replicate, List.length_append, List.length_cons, List.length_nil] <;> omega) | (simp only [all_nv]; done) | rfl)) only [↓stPre, stOwn, stNat, stList, stProp, Nat.reduceEqDiff, Nat.reduceLT, Nat.reduceLeDiff, ↓reduceIte, eq_self, true_implies, false_implies, ite_true, ite_false, if_true, if_false, ne_eq, xf27]
  simp [ground, scal]

/-- The law's helpers. -/
def powL (p e : Nat) (m : List Nat) (a : Nat) (n : Int) : Int := if (powZ p e m a n).2 = 0 then (powZ p e m a n).1 else -1
theorem lpower_spec {p e b c x : Nat} {n : Int} {m : List Nat} {H : AH} {el : TypeId} {op : Option Nat} {r : Bool} (hb : H[b]? = some (.cells (m.map nv) el op r)) (hm : m.length = e) (hmp : ∀ z ∈ m, z < p) (hp : 2 ≤ p) (he : 1 ≤ e) (he6 : e ≤ 6) (hq : p ^ e ≤ 64) (hx : x < 1000) :
    FN Try.prog 38 [fldv p e b e c, nv x, .int .i64 n] H (fun v H' => v = .int .i64 (powL p e m x n) ∧ H' = H) := by
  refine FN.gc0 (FN.of_compZ mixed xf38_ok (Nat.le_of_ble_eq_true rfl) ?_)
  have hb2 := fun (Y : AH) => get_old (L := Y) hb
  simp (disch := (first | omega | (simp only [List.length_map]; omega) | (simp only [List.length_map, List.length_set, List.length_replicate, List.length_append, List.length_cons, List.length_nil] <;> omega) | (simp only [all_nv]; done) | rfl)) only [↓stPre, stOwn, stNat, stList, stProp, Nat.reduceEqDiff, Nat.reduceLT, Nat.reduceLeDiff, ↓reduceIte, eq_self, true_implies, false_implies, ite_true, ite_false, if_true, if_false, ne_eq, xf38]
  refine FZ.use (pow_spec (hb2 _) hm hmp hp he he6 hq hx) ?_
  by_cases h : (powZ p e m x n).2 = 0
  · simp (disch := (first | omega | (simp only [List.length_map]; omega) | (simp only [List.length_map, List.length_set, List.length_replicate, List.length_append, List.length_cons, List.length_nil] <;> omega) | (simp only [all_nv]; done) | rfl)) only [↓stPre, stOwn, stNat, stList, stProp, Nat.reduceEqDiff, Nat.reduceLT, Nat.reduceLeDiff, ↓reduceIte, eq_self, true_implies, false_implies, ite_true, ite_false, if_true, if_false, ne_eq, xf38, h]
    simp [ground, scal, powL, h]
  · simp (disch := (first | omega | (simp only [List.length_map]; omega) | (simp only [List.length_map, List.length_set, List.length_replicate, List.length_append, List.length_cons, List.length_nil] <;> omega) | (simp only [all_nv]; done) | rfl)) only [↓stPre, stOwn, stNat, stList, stProp, Nat.reduceEqDiff, Nat.reduceLT, Nat.reduceLeDiff, ↓reduceIte, eq_self, true_implies, false_implies, ite_true, ite_false, if_true, if_false, ne_eq, xf38, h]
    simp [ground, scal, powL, h]
theorem linv_spec {p e b c x : Nat} {m : List Nat} {H : AH} {el : TypeId} {op : Option Nat} {r : Bool} (hb : H[b]? = some (.cells (m.map nv) el op r)) (hm : m.length = e) (hmp : ∀ z ∈ m, z < p) (hp : 2 ≤ p) (he : 1 ≤ e) (he6 : e ≤ 6) (hq : p ^ e ≤ 64) (hx : x < 1000) :
    FN Try.prog 37 [fldv p e b e c, nv x] H (fun v H' => v = .int .i64 (powL p e m x (-1)) ∧ H' = H) := by
  refine FN.gc0 (FN.of_compZ mixed xf37_ok (Nat.le_of_ble_eq_true rfl) ?_)
  have hb2 := fun (Y : AH) => get_old (L := Y) hb
  simp (disch := (first | omega | (simp only [List.length_map]; omega) | (simp only [List.length_map, List.length_set, List.length_replicate, List.length_append, List.length_cons, List.length_nil] <;> omega) | (simp only [all_nv]; done) | rfl)) only [↓stPre, stOwn, stNat, stList, stProp, Nat.reduceEqDiff, Nat.reduceLT, Nat.reduceLeDiff, ↓reduceIte, eq_self, true_implies, false_implies, ite_true, ite_false, if_true, if_false, ne_eq, xf37]
  refine FZ.use (inv_spec (hb2 _) hm hmp hp he he6 hq hx) ?_
  by_cases h : (powZ p e m x (-1)).2 = 0
  · simp (disch := (first | omega | (simp only [List.length_map]; omega) | (simp only [List.length_map, List.length_set, List.length_replicate, List.length_append, List.length_cons, List.length_nil] <;> omega) | (simp only [all_nv]; done) | rfl)) only [↓stPre, stOwn, stNat, stList, stProp, Nat.reduceEqDiff, Nat.reduceLT, Nat.reduceLeDiff, ↓reduceIte, eq_self, true_implies, false_implies, ite_true, ite_false, if_true, if_false, ne_eq, xf37, h]
    simp [ground, scal, powL, h]
  · simp (disch := (first | omega | (simp only [List.length_map]; omega) | (simp only [List.length_map, List.length_set, List.length_replicate, List.length_append, List.length_cons, List.length_nil] <;> omega) | (simp only [all_nv]; done) | rfl)) only [↓stPre, stOwn, stNat, stList, stProp, Nat.reduceEqDiff, Nat.reduceLT, Nat.reduceLeDiff, ↓reduceIte, eq_self, true_implies, false_implies, ite_true, ite_false, if_true, if_false, ne_eq, xf37, h]
    simp [ground, scal, powL, h]
end Go.Sim

/- The semantic simulation logic, part 28: whole numbers that come in. -/
namespace Go.Sim
open Go
theorem u8_of_wf {n : Int} (h : (Lit.int .u8 n).wf = true) : ∃ k : Nat, n = (k : Int) ∧ k < 256 := by
  simp [Lit.wf, IntKind.min, IntKind.max, IntKind.signed, IntKind.bits] at h
  exact ⟨n.toNat, by omega, by omega⟩
theorem i64_of_wf {n : Int} (h : (Lit.int .i64 n).wf = true) : -9223372036854775808 ≤ n ∧ n ≤ 9223372036854775807 := by
  simp [Lit.wf, IntKind.min, IntKind.max, IntKind.signed, IntKind.bits] at h
  omega
theorem i16_of_wf {n : Int} (h : (Lit.int .i16 n).wf = true) : -32768 ≤ n ∧ n ≤ 32767 := by
  simp [Lit.wf, IntKind.min, IntKind.max, IntKind.signed, IntKind.bits] at h
  omega
/-- The walk of a law out of its contract. -/
theorem law_walk {P : Program} {f : FuncId} {args : List Value} (h : FN P f args [] (fun v _ => v = .bool true)) (hg : args.all ground = true) (w : World) : Calls P f args.toArray w fun e w' => e = .returned (.bool true) ∧ RowKit.Below w.heap.size w w' := by
  refine (calls_of_F (R := fun v => v = .bool true) h.2 (by simpa [List.all_eq_true] using hg) w ?_).mono ?_
  · rintro v v' i rfl hv; cases hv; rfl
  · rintro e w' ⟨v, rfl, rfl, hb⟩; exact ⟨rfl, hb⟩
end Go.Sim

set_option linter.unusedSimpArgs false
namespace Go.Sim
open Go Go.Proofs

/-- The fields, in the order of their sizes. -/
def fdT : List (Nat × Nat × List Nat) := [(2, 1, [0]), (3, 1, [0]), (2, 2, [1, 1]), (5, 1, [0]), (7, 1, [0]), (2, 3, [1, 1, 0]), (3, 2, [1, 0]), (11, 1, [0]), (13, 1, [0]), (2, 4, [1, 1, 0, 0]), (17, 1, [0]), (19, 1, [0]), (23, 1, [0]), (5, 2, [2, 0]), (3, 3, [1, 2, 0]), (29, 1, [0]), (31, 1, [0]), (2, 5, [1, 0, 1, 0, 0]), (37, 1, [0]), (41, 1, [0]), (43, 1, [0]), (47, 1, [0]), (7, 2, [1, 0]), (53, 1, [0]), (59, 1, [0]), (61, 1, [0]), (2, 6, [1, 1, 0, 0, 0, 0])]
def ordT : List Nat := [2, 3, 4, 5, 7, 8, 9, 11, 13, 16, 17, 19, 23, 25, 27, 29, 31, 32, 37, 41, 43, 47, 49, 53, 59, 61, 64]
theorem make_at : ∀ j, j < 27 → ∃ p e m g E, fdT.getD j (2, 1, [0]) = (p, e, m) ∧ FT p e m g E ∧ ordT.getD j 0 = p ^ e ∧ KnownOk Try.prog 11 [nv (ordT.getD j 0)] (.fld p e e e 0 (.cells (m.map nv) 3 (some 1) false))
  | 0, _ => ⟨2, 1, [0], 1, [1], rfl, ft2, rfl, kMakr0_ok _ (List.mem_of_getElem? (i := 2) rfl)⟩
  | 1, _ => ⟨3, 1, [0], 2, [1, 2], rfl, ft3, rfl, kMakr0_ok _ (List.mem_of_getElem? (i := 3) rfl)⟩
  | 2, _ => ⟨2, 2, [1, 1], 2, [1, 2, 3], rfl, ft4, rfl, kMakr0_ok _ (List.mem_of_getElem? (i := 4) rfl)⟩
  | 3, _ => ⟨5, 1, [0], 2, [1, 2, 4, 3], rfl, ft5, rfl, kMakr0_ok _ (List.mem_of_getElem? (i := 5) rfl)⟩
  | 4, _ => ⟨7, 1, [0], 3, [1, 3, 2, 6, 4, 5], rfl, ft7, rfl, kMakr0_ok _ (List.mem_of_getElem? (i := 7) rfl)⟩
  | 5, _ => ⟨2, 3, [1, 1, 0], 2, [1, 2, 4, 3, 6, 7, 5], rfl, ft8, rfl, kMakr0_ok _ (List.mem_of_getElem? (i := 8) rfl)⟩
  | 6, _ => ⟨3, 2, [1, 0], 4, [1, 4, 6, 7, 2, 8, 3, 5], rfl, ft9, rfl, kMakr0_ok _ (List.mem_of_getElem? (i := 9) rfl)⟩
  | 7, _ => ⟨11, 1, [0], 2, [1, 2, 4, 8, 5, 10, 9, 7, 3, 6], rfl, ft11, rfl, kMakr0_ok _ (List.mem_of_getElem? (i := 11) rfl)⟩
  | 8, _ => ⟨13, 1, [0], 2, [1, 2, 4, 8, 3, 6, 12, 11, 9, 5, 10, 7], rfl, ft13, rfl, kMakr0_ok _ (List.mem_of_getElem? (i := 13) rfl)⟩
  | 9, _ => ⟨2, 4, [1, 1, 0, 0], 2, [1, 2, 4, 8, 3, 6, 12, 11, 5, 10, 7, 14, 15, 13, 9], rfl, ft16, rfl, kMakr0_ok _ (List.mem_of_getElem? (i := 16) rfl)⟩
  | 10, _ => ⟨17, 1, [0], 3, [1, 3, 9, 10, 13, 5, 15, 11, 16, 14, 8, 7, 4, 12, 2, 6], rfl, ft17, rfl, kMakr0_ok _ (List.mem_of_getElem? (i := 17) rfl)⟩
  | 11, _ => ⟨19, 1, [0], 2, [1, 2, 4, 8, 16, 13, 7, 14, 9, 18, 17, 15, 11, 3, 6, 12, 5, 10], rfl, ft19, rfl, kMakr0_ok _ (List.mem_of_getElem? (i := 19) rfl)⟩
  | 12, _ => ⟨23, 1, [0], 5, [1, 5, 2, 10, 4, 20, 8, 17, 16, 11, 9, 22, 18, 21, 13, 19, 3, 15, 6, 7, 12, 14], rfl, ft23, rfl, kMakr1_ok _ (List.mem_of_getElem? (i := 3) rfl)⟩
  | 13, _ => ⟨5, 2, [2, 0], 6, [1, 6, 14, 5, 8, 21, 3, 18, 7, 15, 19, 13, 4, 24, 16, 20, 22, 9, 2, 12, 23, 10, 11, 17], rfl, ft25, rfl, kMakr1_ok _ (List.mem_of_getElem? (i := 5) rfl)⟩
  | 14, _ => ⟨3, 3, [1, 2, 0], 3, [1, 3, 9, 5, 15, 23, 13, 17, 20, 4, 12, 14, 11, 2, 6, 18, 7, 21, 16, 26, 22, 10, 8, 24, 25, 19], rfl, ft27, rfl, kMakr1_ok _ (List.mem_of_getElem? (i := 7) rfl)⟩
  | 15, _ => ⟨29, 1, [0], 2, [1, 2, 4, 8, 16, 3, 6, 12, 24, 19, 9, 18, 7, 14, 28, 27, 25, 21, 13, 26, 23, 17, 5, 10, 20, 11, 22, 15], rfl, ft29, rfl, kMakr1_ok _ (List.mem_of_getElem? (i := 9) rfl)⟩
  | 16, _ => ⟨31, 1, [0], 3, [1, 3, 9, 27, 19, 26, 16, 17, 20, 29, 25, 13, 8, 24, 10, 30, 28, 22, 4, 12, 5, 15, 14, 11, 2, 6, 18, 23, 7, 21], rfl, ft31, rfl, kMakr1_ok _ (List.mem_of_getElem? (i := 11) rfl)⟩
  | 17, _ => ⟨2, 5, [1, 0, 1, 0, 0], 2, [1, 2, 4, 8, 16, 5, 10, 20, 13, 26, 17, 7, 14, 28, 29, 31, 27, 19, 3, 6, 12, 24, 21, 15, 30, 25, 23, 11, 22, 9, 18], rfl, ft32, rfl, kMakr1_ok _ (List.mem_of_getElem? (i := 12) rfl)⟩
  | 18, _ => ⟨37, 1, [0], 2, [1, 2, 4, 8, 16, 32, 27, 17, 34, 31, 25, 13, 26, 15, 30, 23, 9, 18, 36, 35, 33, 29, 21, 5, 10, 20, 3, 6, 12, 24, 11, 22, 7, 14, 28, 19], rfl, ft37, rfl, kMakr1_ok _ (List.mem_of_getElem? (i := 17) rfl)⟩
  | 19, _ => ⟨41, 1, [0], 6, [1, 6, 36, 11, 25, 27, 39, 29, 10, 19, 32, 28, 4, 24, 21, 3, 18, 26, 33, 34, 40, 35, 5, 30, 16, 14, 2, 12, 31, 22, 9, 13, 37, 17, 20, 38, 23, 15, 8, 7], rfl, ft41, rfl, kMakr2_ok _ (List.mem_of_getElem? (i := 1) rfl)⟩
  | 20, _ => ⟨43, 1, [0], 3, [1, 3, 9, 27, 38, 28, 41, 37, 25, 32, 10, 30, 4, 12, 36, 22, 23, 26, 35, 19, 14, 42, 40, 34, 16, 5, 15, 2, 6, 18, 11, 33, 13, 39, 31, 7, 21, 20, 17, 8, 24, 29], rfl, ft43, rfl, kMakr2_ok _ (List.mem_of_getElem? (i := 3) rfl)⟩
  | 21, _ => ⟨47, 1, [0], 5, [1, 5, 25, 31, 14, 23, 21, 11, 8, 40, 12, 13, 18, 43, 27, 41, 17, 38, 2, 10, 3, 15, 28, 46, 42, 22, 16, 33, 24, 26, 36, 39, 7, 35, 34, 29, 4, 20, 6, 30, 9, 45, 37, 44, 32, 19], rfl, ft47, rfl, kMakr2_ok _ (List.mem_of_getElem? (i := 7) rfl)⟩
  | 22, _ => ⟨7, 2, [1, 0], 9, [1, 9, 31, 30, 21, 46, 16, 44, 5, 38, 43, 45, 7, 20, 24, 17, 4, 29, 19, 15, 35, 23, 8, 22, 6, 47, 25, 26, 28, 10, 40, 12, 2, 18, 13, 11, 42, 36, 32, 39, 3, 27, 37, 41, 14, 33, 48, 34], rfl, ft49, rfl, kMakr2_ok _ (List.mem_of_getElem? (i := 9) rfl)⟩
  | 23, _ => ⟨53, 1, [0], 2, [1, 2, 4, 8, 16, 32, 11, 22, 44, 35, 17, 34, 15, 30, 7, 14, 28, 3, 6, 12, 24, 48, 43, 33, 13, 26, 52, 51, 49, 45, 37, 21, 42, 31, 9, 18, 36, 19, 38, 23, 46, 39, 25, 50, 47, 41, 29, 5, 10, 20, 40, 27], rfl, ft53, rfl, kMakr2_ok _ (List.mem_of_getElem? (i := 13) rfl)⟩
  | 24, _ => ⟨59, 1, [0], 2, [1, 2, 4, 8, 16, 32, 5, 10, 20, 40, 21, 42, 25, 50, 41, 23, 46, 33, 7, 14, 28, 56, 53, 47, 35, 11, 22, 44, 29, 58, 57, 55, 51, 43, 27, 54, 49, 39, 19, 38, 17, 34, 9, 18, 36, 13, 26, 52, 45, 31, 3, 6, 12, 24, 48, 37, 15, 30], rfl, ft59, rfl, kMakr2_ok _ (List.mem_of_getElem? (i := 19) rfl)⟩
  | 25, _ => ⟨61, 1, [0], 2, [1, 2, 4, 8, 16, 32, 3, 6, 12, 24, 48, 35, 9, 18, 36, 11, 22, 44, 27, 54, 47, 33, 5, 10, 20, 40, 19, 38, 15, 30, 60, 59, 57, 53, 45, 29, 58, 55, 49, 37, 13, 26, 52, 43, 25, 50, 39, 17, 34, 7, 14, 28, 56, 51, 41, 21, 42, 23, 46, 31], rfl, ft61, rfl, kMakr3_ok _ (List.mem_of_getElem? (i := 1) rfl)⟩
  | 26, _ => ⟨2, 6, [1, 1, 0, 0, 0, 0], 2, [1, 2, 4, 8, 16, 32, 3, 6, 12, 24, 48, 35, 5, 10, 20, 40, 19, 38, 15, 30, 60, 59, 53, 41, 17, 34, 7, 14, 28, 56, 51, 37, 9, 18, 36, 11, 22, 44, 27, 54, 47, 29, 58, 55, 45, 25, 50, 39, 13, 26, 52, 43, 21, 42, 23, 46, 31, 62, 63, 61, 57, 49, 33], rfl, ft64, rfl, kMakr3_ok _ (List.mem_of_getElem? (i := 4) rfl)⟩
  | n + 27, h => absurd h (by omega)

theorem FZ.known {P : Program} {g : FuncId} {args : List Value} {kr : KRes} (h : KnownOk P g args kr) {H : AH} {R : Value → AH → Prop} (hR : R (kr.mk H.length) (kr.hp H)) : @FZ P g args H ⟨R⟩ :=
  FZ.mono (h H) (by rintro _ _ ⟨rfl, rfl⟩; exact hR)

theorem wrapN {n : Nat} (h : n < 9223372036854775808) : Value.int .i64 (IntKind.wrap .i64 (n : Int)) = nv n := by rw [wrap64 (by omega) (by omega)]
theorem of_spec {n : Nat} {H : AH} (hn : n < 256) : FN Try.prog 14 [.int .u8 n] H (fun v H' => ∃ p e m g E, fdT.getD (n % 27) (2, 1, [0]) = (p, e, m) ∧ FT p e m g E ∧ v = fldv p e H.length e e ∧ H' = H ++ [.cells (m.map nv) 3 (some 1) false]) := by
  obtain ⟨p, e, m, g, E, ht, F, hq, hk⟩ := make_at (n % 27) (Nat.mod_lt _ (by omega))
  refine FN.mono (FN.gc1 (R := fun v x => v = fldv p e H.length e e ∧ x = .cells (m.map nv) 3 (some 1) false) (FN.of_compZ mixed xf14_ok (Nat.le_of_ble_eq_true rfl) ?_)) ?_
  · simp (disch := (first | omega | (simp only [List.length_map]; omega) | (simp only [List.length_map, List.length_set, List.length_replicate, List.length_append, List.length_cons, List.length_nil] <;> omega) | (simp only [all_nv]; done) | rfl)) only [↓stPre, stOwn, stNat, stList, stProp, Nat.reduceEqDiff, Nat.reduceLT, Nat.reduceLeDiff, ↓reduceIte, eq_self, true_implies, false_implies, ite_true, ite_false, if_true, if_false, ne_eq, xf14]
    refine FZ.known (kOrders_ok _ (List.mem_of_getElem? (i := 0) rfl)) ?_
    simp (disch := (first | omega | (simp only [List.length_map]; omega) | (simp only [List.length_map, List.length_set, List.length_replicate, List.length_append, List.length_cons, List.length_nil] <;> omega) | (simp only [all_nv]; done) | rfl)) only [↓stPre, stOwn, stNat, stList, stProp, Nat.reduceEqDiff, Nat.reduceLT, Nat.reduceLeDiff, ↓reduceIte, eq_self, true_implies, false_implies, ite_true, ite_false, if_true, if_false, ne_eq, KRes.mk, KRes.hp]
    have hl : [nv 2, nv 3, nv 4, nv 5, nv 7, nv 8, nv 9, nv 11, nv 13, nv 16, nv 17, nv 19, nv 23, nv 25, nv 27, nv 29, nv 31, nv 32, nv 37, nv 41, nv 43, nv 47, nv 49, nv 53, nv 59, nv 61, nv 64] = ordT.map nv := rfl
    rw [hl]
    have hlen : ordT.length = 27 := rfl
    have hn27 : n % 27 < 27 := Nat.mod_lt _ (by omega)
    simp (disch := (first | omega | (simp only [List.length_map]; omega) | (simp only [List.length_map, List.length_set, List.length_replicate, List.length_append, List.length_cons, List.length_nil] <;> omega) | (simp only [all_nv]; done) | rfl)) only [↓stPre, stOwn, stNat, stList, stProp, Nat.reduceEqDiff, Nat.reduceLT, Nat.reduceLeDiff, ↓reduceIte, eq_self, true_implies, false_implies, ite_true, ite_false, if_true, if_false, ne_eq, wrapN, KRes.hp]
    refine FZ.known hk ?_
    simp (disch := (first | omega | (simp only [List.length_map]; omega) | (simp only [List.length_map, List.length_set, List.length_replicate, List.length_append, List.length_cons, List.length_nil] <;> omega) | (simp only [all_nv]; done) | rfl)) only [↓stPre, stOwn, stNat, stList, stProp, Nat.reduceEqDiff, Nat.reduceLT, Nat.reduceLeDiff, ↓reduceIte, eq_self, true_implies, false_implies, ite_true, ite_false, if_true, if_false, ne_eq, KRes.mk, KRes.hp, xf14, Nat.reduceAdd]
    rw [stB_all (n := 3) (c := [nv 0, nv 0, .slice none 0 0]) (c' := [nv p, nv e, .slice (some ⟨H.length + 2, 0, none⟩) e e]) rfl rfl rfl]
    simp (disch := (first | omega | (simp only [List.length_map]; omega) | (simp only [List.length_map, List.length_set, List.length_replicate, List.length_append, List.length_cons, List.length_nil] <;> omega) | (simp only [all_nv]; done) | rfl)) only [↓stPre, stOwn, stNat, stList, stProp, Nat.reduceEqDiff, Nat.reduceLT, Nat.reduceLeDiff, ↓reduceIte, eq_self, true_implies, false_implies, ite_true, ite_false, if_true, if_false, ne_eq, KRes.mk, KRes.hp, xf14, Nat.reduceAdd]
    rw [stB_all (n := 3) (c := [nv 0, nv 0, .slice none 0 0]) (c' := [nv p, nv e, .slice (some ⟨H.length + 2, 0, none⟩) e e]) rfl rfl rfl]
    simp (disch := (first | omega | (simp only [List.length_map]; omega) | (simp only [List.length_map, List.length_set, List.length_replicate, List.length_append, List.length_cons, List.length_nil] <;> omega) | (simp only [all_nv]; done) | rfl)) only [↓stPre, stOwn, stNat, stList, stProp, Nat.reduceEqDiff, Nat.reduceLT, Nat.reduceLeDiff, ↓reduceIte, eq_self, true_implies, false_implies, ite_true, ite_false, if_true, if_false, ne_eq, KRes.mk, KRes.hp, xf14, Nat.reduceAdd]
    refine ⟨_, 2, fldv p e H.length e e, .cells (m.map nv) 3 (some 1) false, rfl, rfl, fun σ _ h => ⟨VRs.aggL (.cons (.int _ _) (.cons (.int _ _) (.cons (hat_slice h) .nil))), AR_nv⟩, rfl, rfl⟩
  · rintro v H' ⟨x, rfl, rfl, rfl⟩
    exact ⟨p, e, m, g, E, ht, F, rfl, rfl⟩
end Go.Sim
