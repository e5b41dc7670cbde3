/- Part of the proof: PfFieldQ, PfFieldV, PfFieldW0, PfRefA. -/
import Derived.Test.YtgcoidbhikfdkaaSZzXfPToPfFieldO
import Derived.Test.YtgcoidbhikfdkaaSPfFieldT
import Derived.Test.YtgcoidbhikfdkaaSPfFieldL
import Derived.Test.YtgcoidbhikfdkaaSSimXToSimX2
set_option linter.all false
namespace Go.Sim.Pf
open Go Go.Proofs
def powZ (p e : Nat) (m : List Nat) (a : Nat) (n : Int) : Nat × Nat :=
  if n = 0 then (1, 0) else if a = 0 then (if n < 0 then (0, 3) else (0, 0)) else (powF p e m a (n % ((p ^ e : Nat) - 1 : Int)).toNat, 0)
theorem FN.chg {P : Program} {g : FuncId} {a1 a2 : List Value} {H : AH} {R : Value → AH → Prop} (h : FN P g a1 H R) (e : a1 = a2) : FN P g a2 H R := e ▸ h
theorem pow_spec {p e b c x : Nat} {n : Int} {m : List Nat} {H : AH} {el : TypeId} {op : Option Nat} {r : Bool} (hb : H[b]? = some (.cells (m.map nv) el op r)) (hm : m.length = e) (hmp : ∀ z ∈ m, z < p) (hp : 2 ≤ p) (he : 1 ≤ e) (he6 : e ≤ 6) (hq : p ^ e ≤ 64) (hx : x < 1000) :
    FN Try.prog 176 [fldv p e b e c, nv x, .int .i64 n] H (fun v H' => v = .tuple [nv (powZ p e m x n).1, nv (powZ p e m x n).2].toArray ∧ H' = H) := by
  have hb2 := fun (Y : AH) => get_old (L := Y) hb
  by_cases hn : n = 0
  · subst hn
    refine FN.chg (a1 := [fldv p e b e c, nv x, nv 0]) ?_ rfl
    refine FN.gc0 (FN.of_compZ mixed xf176_ok (Nat.le_of_ble_eq_true rfl) ?_)
    simp (disch := (first | omega | (simp only [List.length_map]; omega) | (simp only [stLen] <;> omega) | (simp only [all_nv]; done) | rfl)) only [↓stPre, zC, zD, zF, zG, zH, Nat.reduceEqDiff, Nat.reduceLT, Nat.reduceLeDiff, ↓reduceIte, xf176]
    simp [ground, scal, powZ]
  refine FN.gc0 (FN.of_compZ mixed xf176_ok (Nat.le_of_ble_eq_true rfl) ?_)
  by_cases hx0 : x = 0
  · subst hx0
    by_cases hneg : n < 0
    · have hnn : n < ((0 : Nat) : Int) := hneg
      have hn' : ¬ n = ((0 : Nat) : Int) := hn
      simp (disch := (first | omega | (simp only [List.length_map]; omega) | (simp only [stLen] <;> omega) | (simp only [all_nv]; done) | rfl)) only [↓stPre, zC, zE, zF, zG, zH, Nat.reduceEqDiff, Nat.reduceLT, Nat.reduceLeDiff, ↓reduceIte, xf176, hn', hnn]
      simp [ground, scal, powZ, hn, hneg]
    · have hnn : ¬ n < ((0 : Nat) : Int) := hneg
      have hn' : ¬ n = ((0 : Nat) : Int) := hn
      simp (disch := (first | omega | (simp only [List.length_map]; omega) | (simp only [stLen] <;> omega) | (simp only [all_nv]; done) | rfl)) only [↓stPre, zC, zE, zF, zG, zH, Nat.reduceEqDiff, Nat.reduceLT, Nat.reduceLeDiff, ↓reduceIte, xf176, hn', hnn]
      simp [ground, scal, powZ, hn, hneg]
  · have hn' : ¬ n = ((0 : Nat) : Int) := hn
    have hx' : ¬ (x : Int) = ((0 : Nat) : Int) := by omega
    simp (disch := (first | omega | (simp only [List.length_map]; omega) | (simp only [stLen] <;> omega) | (simp only [all_nv]; done) | rfl)) only [↓stPre, zC, zE, zF, zG, zH, Nat.reduceEqDiff, Nat.reduceLT, Nat.reduceLeDiff, ↓reduceIte, xf176, hn', hx']
    refine FZ.use (sound_spec hp he he6 rfl hq) ?_
    simp (disch := (first | omega | (simp only [List.length_map]; omega) | (simp only [stLen] <;> omega) | (simp only [all_nv]; done) | rfl)) only [↓stPre, zC, zE, zF, zG, zH, Nat.reduceEqDiff, Nat.reduceLT, Nat.reduceLeDiff, ↓reduceIte]
    refine FZ.use (size_spec hp he he6 rfl hq) ?_
    have hq2 : 2 ≤ p ^ e := Nat.le_trans hp (by simpa using Nat.pow_le_pow_right (show 0 < p by omega) he)
    simp (disch := (first | omega | (simp only [List.length_map]; omega) | (simp only [stLen] <;> omega) | (simp only [all_nv]; done) | rfl)) only [↓stPre, zC, zD, zF, zG, zH, Nat.reduceEqDiff, Nat.reduceLT, Nat.reduceLeDiff, ↓reduceIte]
    have hcast : (((p ^ e - 1 : Nat)) : Int) = ((p ^ e : Nat) - 1 : Int) := by omega
    refine FZ.use (mod_spec (by omega) (by omega)) ?_
    have h0 := Int.emod_nonneg n (show (((p ^ e - 1 : Nat)) : Int) ≠ 0 by omega)
    have h1 := Int.emod_lt_of_pos n (show (0 : Int) < ((p ^ e - 1 : Nat) : Int) by omega)
    obtain ⟨N, hN⟩ : ∃ N : Nat, n % ((p ^ e - 1 : Nat) : Int) = N := ⟨_, (Int.toNat_of_nonneg h0).symm⟩
    rw [hN] at h0 h1 ⊢
    simp (disch := (first | omega | (simp only [List.length_map]; omega) | (simp only [stLen] <;> omega) | (simp only [all_nv]; done) | rfl)) only [↓stPre, zC, zD, zF, zG, zH, Nat.reduceEqDiff, Nat.reduceLT, Nat.reduceLeDiff, ↓reduceIte]
    refine FZ.use (power_spec (hb2 _) hm hmp hp he he6 hq hx (show N < 1000000 by omega)) ?_
    simp (disch := (first | omega | (simp only [List.length_map]; omega) | (simp only [stLen] <;> omega) | (simp only [all_nv]; done) | rfl)) only [↓stPre, zC, zD, zF, zG, zH, Nat.reduceEqDiff, Nat.reduceLT, Nat.reduceLeDiff, ↓reduceIte, xf176]
    rw [hcast] at hN
    have hv : powZ p e m x n = (powF p e m x N, 0) := by unfold powZ; rw [if_neg hn, if_neg hx0, hN]; rfl
    rw [hv]
    simp [ground, scal]
theorem inv_spec {p e b c x : Nat} {m : List Nat} {H : AH} {el : TypeId} {op : Option Nat} {r : Bool} (hb : H[b]? = some (.cells (m.map nv) el op r)) (hm : m.length = e) (hmp : ∀ z ∈ m, z < p) (hp : 2 ≤ p) (he : 1 ≤ e) (he6 : e ≤ 6) (hq : p ^ e ≤ 64) (hx : x < 1000) :
    FN Try.prog 138 [fldv p e b e c, nv x] H (fun v H' => v = .tuple [nv (powZ p e m x (-1)).1, nv (powZ p e m x (-1)).2].toArray ∧ H' = H) := by
  refine FN.gc0 (FN.of_compZ mixed xf138_ok (Nat.le_of_ble_eq_true rfl) ?_)
  have hb2 := fun (Y : AH) => get_old (L := Y) hb
  simp (disch := (first | omega | (simp only [List.length_map]; omega) | (simp only [stLen] <;> omega) | (simp only [all_nv]; done) | rfl)) only [↓stPre, zC, zD, zF, zG, zH, Nat.reduceEqDiff, Nat.reduceLT, Nat.reduceLeDiff, ↓reduceIte, xf138]
  refine FZ.use (pow_spec (hb2 _) hm hmp hp he he6 hq hx) ?_
  simp (disch := (first | omega | (simp only [List.length_map]; omega) | (simp only [stLen] <;> omega) | (simp only [all_nv]; done) | rfl)) only [↓stPre, zC, zD, zF, zG, zH, Nat.reduceEqDiff, Nat.reduceLT, Nat.reduceLeDiff, ↓reduceIte, xf138]
  simp [ground, scal]
end Go.Sim.Pf

namespace Go.Sim.Pf
open Go Go.Proofs
def fdT : List (Nat × Nat × List Nat) := [(2, 1, [0]), (3, 1, [0]), (2, 2, [1, 1]), (5, 1, [0]), (7, 1, [0]), (2, 3, [1, 1, 0]), (3, 2, [1, 0]), (11, 1, [0]), (13, 1, [0]), (2, 4, [1, 1, 0, 0]), (17, 1, [0]), (19, 1, [0]), (23, 1, [0]), (5, 2, [2, 0]), (3, 3, [1, 2, 0]), (29, 1, [0]), (31, 1, [0]), (2, 5, [1, 0, 1, 0, 0]), (37, 1, [0]), (41, 1, [0]), (43, 1, [0]), (47, 1, [0]), (7, 2, [1, 0]), (53, 1, [0]), (59, 1, [0]), (61, 1, [0]), (2, 6, [1, 1, 0, 0, 0, 0])]
def ordT : List Nat := [2, 3, 4, 5, 7, 8, 9, 11, 13, 16, 17, 19, 23, 25, 27, 29, 31, 32, 37, 41, 43, 47, 49, 53, 59, 61, 64]
theorem make_at : ∀ j, j < 10 → ∃ p e m g E, fdT.getD j (2, 1, [0]) = (p, e, m) ∧ FT p e m g E ∧ ordT.getD j 0 = p ^ e ∧ KnownOk Try.prog 110 [nv (ordT.getD j 0)] (.fld p e e e 0 (.cells (m.map nv) 3 (some 1) false))
  | 0, _ => ⟨2, 1, [0], 1, [1], rfl, ft2, rfl, kMakr0_ok _ (List.mem_of_getElem? (i := 2) rfl)⟩
  | 1, _ => ⟨3, 1, [0], 2, [1, 2], rfl, ft3, rfl, kMakr0_ok _ (List.mem_of_getElem? (i := 3) rfl)⟩
  | 2, _ => ⟨2, 2, [1, 1], 2, [1, 2, 3], rfl, ft4, rfl, kMakr0_ok _ (List.mem_of_getElem? (i := 4) rfl)⟩
  | 3, _ => ⟨5, 1, [0], 2, [1, 2, 4, 3], rfl, ft5, rfl, kMakr0_ok _ (List.mem_of_getElem? (i := 5) rfl)⟩
  | 4, _ => ⟨7, 1, [0], 3, [1, 3, 2, 6, 4, 5], rfl, ft7, rfl, kMakr0_ok _ (List.mem_of_getElem? (i := 7) rfl)⟩
  | 5, _ => ⟨2, 3, [1, 1, 0], 2, [1, 2, 4, 3, 6, 7, 5], rfl, ft8, rfl, kMakr0_ok _ (List.mem_of_getElem? (i := 8) rfl)⟩
  | 6, _ => ⟨3, 2, [1, 0], 4, [1, 4, 6, 7, 2, 8, 3, 5], rfl, ft9, rfl, kMakr0_ok _ (List.mem_of_getElem? (i := 9) rfl)⟩
  | 7, _ => ⟨11, 1, [0], 2, [1, 2, 4, 8, 5, 10, 9, 7, 3, 6], rfl, ft11, rfl, kMakr0_ok _ (List.mem_of_getElem? (i := 11) rfl)⟩
  | 8, _ => ⟨13, 1, [0], 2, [1, 2, 4, 8, 3, 6, 12, 11, 9, 5, 10, 7], rfl, ft13, rfl, kMakr0_ok _ (List.mem_of_getElem? (i := 13) rfl)⟩
  | 9, _ => ⟨2, 4, [1, 1, 0, 0], 2, [1, 2, 4, 8, 3, 6, 12, 11, 5, 10, 7, 14, 15, 13, 9], rfl, ft16, rfl, kMakr0_ok _ (List.mem_of_getElem? (i := 16) rfl)⟩
  | n + 10, h => absurd h (by omega)
theorem FZ.known {P : Program} {g : FuncId} {args : List Value} {kr : KRes} (h : KnownOk P g args kr) {H : AH} {R : Value → AH → Prop} (hR : R (kr.mk H.length) (kr.hp H)) : @FZ P g args H ⟨R⟩ :=
  FZ.mono (h H) (by rintro _ _ ⟨rfl, rfl⟩; exact hR)
end Go.Sim.Pf

namespace Go.Sim.Pf
open Go Go.Proofs
theorem stB_fld {H : AH} {x y z : Value} {el : TypeId} {op : Option Nat} {bl p e b n c : Nat} : stB 3 H (some (.cells [x, y, z] el op false)) bl 0 (fldv p e b n c) = some (undef, H.set bl (.cells [nv p, nv e, .slice (some ⟨b, 0, none⟩) n c] el op false)) :=
  stB_all (n := 3) (c := [x, y, z]) (c' := [nv p, nv e, .slice (some ⟨b, 0, none⟩) n c]) rfl rfl rfl
theorem rpow_spec {p e : Nat} {H : AH} (hp : 2 ≤ p) (hq : p ^ e ≤ 64) : FN Try.prog 108 [nv p, nv e] H (fun v H' => v = nv (p ^ e) ∧ H' = H) := by
  have he : e < 64 := by
    have h1 : e < 2 ^ e := Nat.lt_two_pow_self
    have h2 : 2 ^ e ≤ p ^ e := Nat.pow_le_pow_left hp e
    omega
  refine FN.gc0 (FN.of_compZ mixed xf108_ok (Nat.le_of_ble_eq_true rfl) ?_)
  simp (disch := (first | omega | (simp only [List.length_map]; omega) | (simp only [stLen] <;> omega) | (simp only [all_nv]; done) | rfl)) only [↓stPre, zC, zD, zF, zG, zH, Nat.reduceEqDiff, Nat.reduceLT, Nat.reduceLeDiff, ↓reduceIte, xf108]
  refine LZ.nat e (fun k s H' => s.env 0 = nv p ∧ s.env 1 = nv e ∧ s.env 5 = nv (p ^ k) ∧ s.env 6 = nv k ∧ s.ds = [] ∧ H' = H) ?_ ?_ ?_
  · simp (disch := (first | omega | (simp only [List.length_map]; omega) | (simp only [stLen] <;> omega) | (simp only [all_nv]; done) | rfl)) only [↓stPre, zC, zD, zF, zG, zH, Nat.reduceEqDiff, Nat.reduceLT, Nat.reduceLeDiff, ↓reduceIte]
    simp
  · rintro k s H1 hk ⟨e0, e1, e5, e6, eds, rfl⟩
    have h1 := pow_le64 (k := k) hp (by omega) hq
    have h2 := pow_le64 (k := k + 1) hp (by omega) hq
    rw [Nat.pow_succ] at h2
    simp (disch := (first | omega | (simp only [List.length_map]; omega) | (simp only [stLen] <;> omega) | (simp only [all_nv]; done) | rfl)) only [↓stPre, zC, zD, zF, zG, zH, Nat.reduceEqDiff, Nat.reduceLT, Nat.reduceLeDiff, ↓reduceIte, e0, e1, e5, e6, eds, hk]
    simp [Nat.pow_succ]
  · rintro s H1 ⟨e0, e1, e5, e6, eds, rfl⟩
    simp (disch := (first | omega | (simp only [List.length_map]; omega) | (simp only [stLen] <;> omega) | (simp only [all_nv]; done) | rfl)) only [↓stPre, zC, zD, zF, zG, zH, Nat.reduceEqDiff, Nat.reduceLT, Nat.reduceLeDiff, ↓reduceIte, e0, e1, e5, e6, eds, xf108]
    simp [ground, scal]
theorem rsize_spec {p e b n c : Nat} {H : AH} (hp : 2 ≤ p) (hq : p ^ e ≤ 64) : FN Try.prog 62 [fldv p e b n c] H (fun v H' => v = nv (p ^ e) ∧ H' = H) := by
  refine FN.gc0 (FN.of_compZ mixed xf62_ok (Nat.le_of_ble_eq_true rfl) ?_)
  simp (disch := omega) only [↓stPre, zC, zD, zF, zG, zH, Nat.reduceEqDiff, Nat.reduceLT, Nat.reduceLeDiff, ↓reduceIte, xf62]
  refine FZ.use (rpow_spec hp hq) ?_
  simp (disch := omega) only [↓stPre, zC, zD, zF, zG, zH, ↓reduceIte, xf62]
  simp [ground, scal]
end Go.Sim.Pf

namespace Go.Sim.Pf
open Go Go.Proofs
def chg (p e : Nat) (m : List Nat) (r : Nat) : Nat × Nat × List Nat :=
  if r = 0 then (p + 1, e, m) else if r = 1 then (p, e + 1, m) else if r = 2 then (p, e, m.set 0 ((m.getD 0 0 + 1) % p)) else if r = 3 then (p, e, m ++ [0]) else (p, e, m)
end Go.Sim.Pf
