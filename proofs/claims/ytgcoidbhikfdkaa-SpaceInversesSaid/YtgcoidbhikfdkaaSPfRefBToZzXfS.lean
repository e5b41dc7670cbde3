/- Part of the proof: PfRefB, PfMatD, PfMatA, PfMatB, SpF, ZzXfS. -/
import Derived.Test.YtgcoidbhikfdkaaSPfFieldQToPfRefA
import Derived.Test.YtgcoidbhikfdkaaSPfFieldK
import Derived.Test.YtgcoidbhikfdkaaSPfFieldL
import Derived.Test.YtgcoidbhikfdkaaSPfFieldT
import Derived.Test.YtgcoidbhikfdkaaSSpW3ToSpX10
import Derived.Test.YtgcoidbhikfdkaaSXfS
import Derived.Test.YtgcoidbhikfdkaaSShMix
import Derived.KernelRfl
set_option linter.all false
namespace Go.Sim.Pf
open Go Go.Proofs
theorem soundF_spec {p e b n c : Nat} {H : AH} (hp : p ≤ 100) (he : e ≤ 100) (hn : n ≤ 100) (h : ¬ (2 ≤ p ∧ 1 ≤ e ∧ e ≤ 6 ∧ n = e ∧ p ^ e ≤ 64)) : FN Try.prog 134 [fldv p e b n c] H (fun v H' => v = .bool false ∧ H' = H) := by
  refine FN.gc0 (FN.of_compZ mixed xf134_ok (Nat.le_of_ble_eq_true rfl) ?_)
  by_cases n1 : p < 2
  · simp (disch := (first | omega | (simp only [List.length_map]; omega) | (simp only [stLen] <;> omega) | (simp only [all_nv]; done) | rfl)) only [↓stPre, zC, zD, zF, zG, zH, Nat.reduceEqDiff, Nat.reduceLT, Nat.reduceLeDiff, ↓reduceIte, xf134, n1]
    simp [ground, scal]
  by_cases n2 : e < 1
  · simp (disch := (first | omega | (simp only [List.length_map]; omega) | (simp only [stLen] <;> omega) | (simp only [all_nv]; done) | rfl)) only [↓stPre, zC, zD, zF, zG, zH, Nat.reduceEqDiff, Nat.reduceLT, Nat.reduceLeDiff, ↓reduceIte, xf134, n1, n2]
    simp [ground, scal]
  by_cases n3 : 6 < e
  · simp (disch := (first | omega | (simp only [List.length_map]; omega) | (simp only [stLen] <;> omega) | (simp only [all_nv]; done) | rfl)) only [↓stPre, zC, zD, zF, zG, zH, Nat.reduceEqDiff, Nat.reduceLT, Nat.reduceLeDiff, ↓reduceIte, xf134, n1, n2, n3]
    simp [ground, scal]
  by_cases n4 : n = e
  · have hq : 64 < p ^ e := by
      rcases Nat.lt_or_ge 64 (p ^ e) with h1 | h1
      · exact h1
      · exact absurd ⟨by omega, by omega, by omega, n4, h1⟩ h
    obtain ⟨k0, hk0, hlo⟩ := least (fun k => 64 < p ^ (k + 1)) (e - 1) (by show 64 < p ^ (e - 1 + 1); rwa [show e - 1 + 1 = e by omega])
    have hk0e : k0 < e := by
      rcases Nat.lt_or_ge k0 e with h1 | h1
      · exact h1
      · exact absurd (show 64 < p ^ (e - 1 + 1) by rwa [show e - 1 + 1 = e by omega]) (hlo (e - 1) (by omega))
    have hsm : ∀ k, k ≤ k0 → p ^ k ≤ 64 := fun k hk => by
      cases k with
      | zero => simp
      | succ k => exact Nat.le_of_not_lt (hlo k (by omega))
    have hp0 : 0 < p := by omega
    simp (disch := (first | omega | (simp only [List.length_map]; omega) | (simp only [stLen] <;> omega) | (simp only [all_nv]; done) | rfl)) only [↓stPre, zC, zD, zF, zG, zH, Nat.reduceEqDiff, Nat.reduceLT, Nat.reduceLeDiff, ↓reduceIte, xf134, n1, n2, n3, n4]
    refine LZ.nat k0 (fun k s H' => s.env 1 = .pointer (some ⟨H.length, 0, none⟩) ∧ s.env 3 = nv (p ^ k) ∧ s.env 26 = nv e ∧ s.env 27 = nv k ∧ s.ds = [] ∧
       H' = H ++ [.cells [nv p, nv e, .slice (some ⟨b, 0, none⟩) e c] 61 none false]) ?_ ?_ ?_
    · simp (disch := (first | omega | (simp only [List.length_map]; omega) | (simp only [stLen] <;> omega) | (simp only [all_nv]; done) | rfl)) only [↓stPre, zC, zD, zF, zG, zH, Nat.reduceEqDiff, Nat.reduceLT, Nat.reduceLeDiff, ↓reduceIte]
      simp
    · rintro k s H1 hk ⟨e1, e3, e26, e27, eds, rfl⟩
      have h2 : p ^ k * p ≤ 64 := by rw [← Nat.pow_succ]; exact hsm (k + 1) (by omega)
      have h1 : ¬ 64 / p < p ^ k := by
        rw [Nat.not_lt, Nat.le_div_iff_mul_le hp0]; exact h2
      have hke : k < e := by omega
      simp (disch := (first | omega | (simp only [List.length_map]; omega) | (simp only [stLen] <;> omega) | (simp only [all_nv]; done) | rfl)) only [↓stPre, zC, zD, zF, zG, zH, Nat.reduceEqDiff, Nat.reduceLT, Nat.reduceLeDiff, ↓reduceIte, e1, e3, e26, e27, eds, hke, h1]
      simp [Nat.pow_succ]
    · rintro s H1 ⟨e1, e3, e26, e27, eds, rfl⟩
      have h1 : 64 / p < p ^ k0 := by
        rw [Nat.div_lt_iff_lt_mul hp0, ← Nat.pow_succ]; exact hk0
      simp (disch := (first | omega | (simp only [List.length_map]; omega) | (simp only [stLen] <;> omega) | (simp only [all_nv]; done) | rfl)) only [↓stPre, zC, zD, zF, zG, zH, Nat.reduceEqDiff, Nat.reduceLT, Nat.reduceLeDiff, ↓reduceIte, e1, e3, e26, e27, eds, hk0e, h1, xf134]
      simp [ground, scal]
  · simp (disch := (first | omega | (simp only [List.length_map]; omega) | (simp only [stLen] <;> omega) | (simp only [all_nv]; done) | rfl)) only [↓stPre, zC, zD, zF, zG, zH, Nat.reduceEqDiff, Nat.reduceLT, Nat.reduceLeDiff, ↓reduceIte, xf134, n1, n2, n3, n4]
    simp [ground, scal]
theorem neq_at : ∀ {X Y : List Nat}, X.length = Y.length → X ≠ Y → ∃ i, i < X.length ∧ X.getD i 0 ≠ Y.getD i 0
  | [], [], _, h => absurd rfl h
  | x :: X, y :: Y, hl, h => by
    by_cases hxy : x = y
    · obtain ⟨i, h1, h2⟩ := neq_at (X := X) (Y := Y) (by simpa using hl) (fun hc => h (by rw [hxy, hc]))
      exact ⟨i + 1, by simpa using h1, by simpa using h2⟩
    · exact ⟨0, by simp, by simpa using hxy⟩
  | [], _ :: _, hl, _ => by simp at hl
  | _ :: _, [], hl, _ => by simp at hl
theorem equal_spec {b1 b2 n1 n2 c1 c2 : Nat} {X Y : List Nat} {H : AH} {el1 el2 : TypeId} {op1 op2 : Option Nat} {r1 r2 : Bool} (h1 : H[b1]? = some (.cells (X.map nv) el1 op1 r1)) (h2 : H[b2]? = some (.cells (Y.map nv) el2 op2 r2)) (hn1 : n1 = X.length) (hn2 : n2 = Y.length) (hl : n1 ≤ 100) (hl2 : n2 ≤ 100) :
    FN Try.prog 136 [.slice (some ⟨b1, 0, none⟩) n1 c1, .slice (some ⟨b2, 0, none⟩) n2 c2] H (fun v H' => v = .bool (decide (X = Y)) ∧ H' = H) := by
  refine FN.gc0 (FN.of_compZ mixed xf136_ok (Nat.le_of_ble_eq_true rfl) ?_)
  by_cases hln : n1 = n2
  · by_cases hXY : X = Y
    · simp (disch := (first | omega | (simp only [List.length_map]; omega) | (simp only [stLen] <;> omega) | (simp only [all_nv]; done) | rfl)) only [↓stPre, zC, zD, zF, zG, zH, Nat.reduceEqDiff, Nat.reduceLT, Nat.reduceLeDiff, ↓reduceIte, xf136, hln]
      refine LZ.nat n2 (fun k s H' => s.env 0 = .slice (some ⟨b1, 0, none⟩) n2 c1 ∧ s.env 1 = .slice (some ⟨b2, 0, none⟩) n2 c2 ∧ s.env 12 = nv n2 ∧ s.env 13 = nv k ∧ s.ds = [] ∧ H' = H) ?_ ?_ ?_
      · simp (disch := (first | omega | (simp only [List.length_map]; omega) | (simp only [stLen] <;> omega) | (simp only [all_nv]; done) | rfl)) only [↓stPre, zC, zD, zF, zG, zH, Nat.reduceEqDiff, Nat.reduceLT, Nat.reduceLeDiff, ↓reduceIte]
        simp [hln]
      · rintro k s H1 hk ⟨e0, e1, e12, e13, eds, rfl⟩
        have hg : X.getD k 0 = Y.getD k 0 := by rw [hXY]
        simp (disch := (first | omega | (simp only [List.length_map]; omega) | (simp only [stLen] <;> omega) | (simp only [all_nv]; done) | rfl)) only [↓stPre, zC, zD, zF, zG, zH, Nat.reduceEqDiff, Nat.reduceLT, Nat.reduceLeDiff, ↓reduceIte, e0, e1, e12, e13, eds, hk, h1, h2, hg]
      · rintro s H1 ⟨e0, e1, e12, e13, eds, rfl⟩
        simp (disch := (first | omega | (simp only [List.length_map]; omega) | (simp only [stLen] <;> omega) | (simp only [all_nv]; done) | rfl)) only [↓stPre, zC, zD, zF, zG, zH, Nat.reduceEqDiff, Nat.reduceLT, Nat.reduceLeDiff, ↓reduceIte, e0, e1, e12, e13, eds, xf136]
        simp [ground, scal, hXY]
    · obtain ⟨i0, hi0, hne0⟩ := neq_at (by omega) hXY
      obtain ⟨i, ⟨hi, hne⟩, hlo⟩ := least (fun i => i < X.length ∧ X.getD i 0 ≠ Y.getD i 0) i0 ⟨hi0, hne0⟩
      simp (disch := (first | omega | (simp only [List.length_map]; omega) | (simp only [stLen] <;> omega) | (simp only [all_nv]; done) | rfl)) only [↓stPre, zC, zD, zF, zG, zH, Nat.reduceEqDiff, Nat.reduceLT, Nat.reduceLeDiff, ↓reduceIte, xf136, hln]
      refine LZ.nat i (fun k s H' => s.env 0 = .slice (some ⟨b1, 0, none⟩) n2 c1 ∧ s.env 1 = .slice (some ⟨b2, 0, none⟩) n2 c2 ∧ s.env 12 = nv n2 ∧ s.env 13 = nv k ∧ s.ds = [] ∧ H' = H) ?_ ?_ ?_
      · simp (disch := (first | omega | (simp only [List.length_map]; omega) | (simp only [stLen] <;> omega) | (simp only [all_nv]; done) | rfl)) only [↓stPre, zC, zD, zF, zG, zH, Nat.reduceEqDiff, Nat.reduceLT, Nat.reduceLeDiff, ↓reduceIte]
        simp [hln]
      · rintro k s H1 hk ⟨e0, e1, e12, e13, eds, rfl⟩
        have hg : X.getD k 0 = Y.getD k 0 := by
          have := hlo k hk
          rcases Nat.decEq (X.getD k 0) (Y.getD k 0) with h | h
          · exact absurd ⟨by omega, h⟩ this
          · exact h
        have hk2 : k < n2 := by omega
        simp (disch := (first | omega | (simp only [List.length_map]; omega) | (simp only [stLen] <;> omega) | (simp only [all_nv]; done) | rfl)) only [↓stPre, zC, zD, zF, zG, zH, Nat.reduceEqDiff, Nat.reduceLT, Nat.reduceLeDiff, ↓reduceIte, e0, e1, e12, e13, eds, hk2, h1, h2, hg]
      · rintro s H1 ⟨e0, e1, e12, e13, eds, rfl⟩
        have hk2 : i < n2 := by omega
        simp (disch := (first | omega | (simp only [List.length_map]; omega) | (simp only [stLen] <;> omega) | (simp only [all_nv]; done) | rfl)) only [↓stPre, zC, zD, zF, zG, zH, Nat.reduceEqDiff, Nat.reduceLT, Nat.reduceLeDiff, ↓reduceIte, e0, e1, e12, e13, eds, hk2, h1, h2, hne, xf136]
        simp [ground, scal, hXY]
  · have hXY : X ≠ Y := fun h => hln (by rw [hn1, hn2, h])
    simp (disch := (first | omega | (simp only [List.length_map]; omega) | (simp only [stLen] <;> omega) | (simp only [all_nv]; done) | rfl)) only [↓stPre, zC, zD, zF, zG, zH, Nat.reduceEqDiff, Nat.reduceLT, Nat.reduceLeDiff, ↓reduceIte, xf136, hln]
    simp [ground, scal, hXY]
def mkT : List (Option (Nat × Nat × List Nat)) := [none, none, some (2, 1, [0]), some (3, 1, [0]), some (2, 2, [1, 1]), some (5, 1, [0]), none, some (7, 1, [0]), some (2, 3, [1, 1, 0]), some (3, 2, [1, 0]), none, some (11, 1, [0]), none, some (13, 1, [0]), none, none, some (2, 4, [1, 1, 0, 0]), some (17, 1, [0]), none, some (19, 1, [0]), none, none, none, some (23, 1, [0]), none, some (5, 2, [2, 0]), none, some (3, 3, [1, 2, 0]), none, some (29, 1, [0]), none, some (31, 1, [0]), some (2, 5, [1, 0, 1, 0, 0]), none, none, none, none, some (37, 1, [0]), none, none, none, some (41, 1, [0]), none, some (43, 1, [0]), none, none, none, some (47, 1, [0]), none, some (7, 2, [1, 0]), none, none, none, some (53, 1, [0]), none, none, none, none, none, some (59, 1, [0]), none, some (61, 1, [0]), none, none, some (2, 6, [1, 1, 0, 0, 0, 0])]
def mkR : Option (Nat × Nat × List Nat) → KRes
  | some (p, e, m) => .fld p e e e 0 (.cells (m.map nv) 3 (some 1) false)
  | none => .val (.tuple [.agg [nv 0, nv 0, .slice none 0 0].toArray, nv 1].toArray)
theorem make10 (q : Nat) (hq : q < 65) : KnownOk Try.prog 135 [nv q] (mkR (mkT.getD q none)) := by
  have e : kMake = (List.range 65).map fun q => ([nv q], mkR (mkT.getD q none)) := by kernel_rfl
  exact kMake_ok _ (by rw [e]; exact List.mem_map.2 ⟨q, List.mem_range.2 hq, rfl⟩)
theorem mkT_len : ∀ q, q < 65 → ∀ x, mkT.getD q none = some x → x.2.2.length = x.2.1 ∧ x.2.1 ≤ 6 ∧ x.1 ≤ 64 ∧ x.1 ≠ 0 := by
  intro q hq x hx
  have h : (List.range 65).all (fun q => match mkT.getD q none with | some x => Nat.beq x.2.2.length x.2.1 && Nat.ble x.2.1 6 && Nat.ble x.1 64 && !Nat.beq x.1 0 | none => true) = true := by decide +kernel
  have := List.all_eq_true.1 h q (List.mem_range.2 hq)
  rw [hx] at this
  simp only [Bool.and_eq_true, Bool.not_eq_true'] at this
  obtain ⟨⟨⟨h1, h2⟩, h3⟩, h4⟩ := this
  exact ⟨Nat.eq_of_beq_eq_true h1, Nat.le_of_ble_eq_true h2, Nat.le_of_ble_eq_true h3, fun h0 => by rw [h0] at h4; cases h4⟩
theorem stB_fld0 {H : AH} {x y z : Value} {el : TypeId} {op : Option Nat} {bl p e : Nat} : stB 3 H (some (.cells [x, y, z] el op false)) bl 0 (.agg [nv p, nv e, .slice none 0 0].toArray) = some (undef, H.set bl (.cells [nv p, nv e, .slice none 0 0] el op false)) :=
  stB_all (n := 3) (c := [x, y, z]) (c' := [nv p, nv e, .slice none 0 0]) rfl rfl rfl
def validB (p e : Nat) (m : List Nat) : Bool :=
  if 2 ≤ p ∧ 1 ≤ e ∧ e ≤ 6 ∧ m.length = e ∧ p ^ e ≤ 64 then (match mkT.getD (p ^ e) none with | some x => decide (x.1 = p) && decide (x.2.2 = m) | none => false) else false
theorem valid_spec {p e b n c : Nat} {m : List Nat} {H : AH} {el : TypeId} {op : Option Nat} {r : Bool} (hb : H[b]? = some (.cells (m.map nv) el op r)) (hn : n = m.length) (hp : p ≤ 100) (he : e ≤ 100) (hl : n ≤ 100) :
    FN Try.prog 87 [fldv p e b n c] H (fun v H' => v = .bool (validB p e m) ∧ H' = H) := by
  have hb2 := fun (Y : AH) => get_old (L := Y) hb
  refine FN.gc0 (FN.of_compZ mixed xf87_ok (Nat.le_of_ble_eq_true rfl) ?_)
  simp (disch := (first | omega | (simp only [List.length_map]; omega) | (simp only [stLen] <;> omega) | (simp only [all_nv]; done) | rfl)) only [↓stPre, zC, zD, zF, zG, zH, Nat.reduceEqDiff, Nat.reduceLT, Nat.reduceLeDiff, ↓reduceIte, xf87]
  by_cases h : 2 ≤ p ∧ 1 ≤ e ∧ e ≤ 6 ∧ m.length = e ∧ p ^ e ≤ 64
  · have hv : validB p e m = (match mkT.getD (p ^ e) none with | some x => decide (x.1 = p) && decide (x.2.2 = m) | none => false) := by unfold validB; rw [if_pos h]
    obtain ⟨h1, h2, h3, h4, h5⟩ := h
    refine FZ.use (sound_spec h1 h2 h3 (hn.trans h4) h5) ?_
    simp (disch := (first | omega | (simp only [List.length_map]; omega) | (simp only [stLen] <;> omega) | (simp only [all_nv]; done) | rfl)) only [↓stPre, zC, zD, zF, zG, zH, Nat.reduceEqDiff, Nat.reduceLT, Nat.reduceLeDiff, ↓reduceIte, xf87]
    refine FZ.use (size_spec h1 h2 h3 (hn.trans h4) h5) ?_
    simp (disch := (first | omega | (simp only [List.length_map]; omega) | (simp only [stLen] <;> omega) | (simp only [all_nv]; done) | rfl)) only [↓stPre, zC, zD, zF, zG, zH, Nat.reduceEqDiff, Nat.reduceLT, Nat.reduceLeDiff, ↓reduceIte, xf87]
    have hk := make10 (p ^ e) (by omega)
    have hlen := mkT_len (p ^ e) (by omega)
    rw [hv]
    cases hx : mkT.getD (p ^ e) none with
    | none =>
      rw [hx] at hk
      refine FZ.known hk ?_
      simp (disch := (first | omega | (simp only [List.length_map]; omega) | (simp only [stLen] <;> omega) | (simp only [all_nv]; done) | rfl)) only [↓stPre, zC, zD, zF, zG, zH, Nat.reduceEqDiff, Nat.reduceLT, Nat.reduceLeDiff, ↓reduceIte, mkR, KRes.mk, KRes.hp, stB_fld0, xf87, Nat.reduceAdd]
      simp [ground, scal]
    | some x =>
      obtain ⟨p2, e2, m2⟩ := x
      rw [hx] at hk
      obtain ⟨q1, q2, q3, _⟩ := hlen _ hx
      simp only at q1 q2 q3
      refine FZ.known hk ?_
      by_cases hpp : p2 = p
      · simp (disch := (first | omega | (simp only [List.length_map]; omega) | (simp only [stLen] <;> omega) | (simp only [all_nv]; done) | rfl)) only [↓stPre, zC, zD, zF, zG, zH, Nat.reduceEqDiff, Nat.reduceLT, Nat.reduceLeDiff, ↓reduceIte, mkR, KRes.mk, KRes.hp, stB_fld, xf87, Nat.reduceAdd, hpp]
        refine FZ.use (equal_spec (get_new.trans rfl) (hb2 _) q1.symm hn (by omega) (by omega)) ?_
        simp (disch := (first | omega | (simp only [List.length_map]; omega) | (simp only [stLen] <;> omega) | (simp only [all_nv]; done) | rfl)) only [↓stPre, zC, zD, zF, zG, zH, Nat.reduceEqDiff, Nat.reduceLT, Nat.reduceLeDiff, ↓reduceIte, xf87]
        simp [ground, scal, hpp]
      · simp (disch := (first | omega | (simp only [List.length_map]; omega) | (simp only [stLen] <;> omega) | (simp only [all_nv]; done) | rfl)) only [↓stPre, zC, zD, zF, zG, zH, Nat.reduceEqDiff, Nat.reduceLT, Nat.reduceLeDiff, ↓reduceIte, mkR, KRes.mk, KRes.hp, stB_fld, xf87, Nat.reduceAdd, hpp]
        simp [ground, scal, hpp]
  · have hv : validB p e m = false := by unfold validB; rw [if_neg h]
    rw [hv]
    refine FZ.use (soundF_spec hp he hl (fun hc => h ⟨hc.1, hc.2.1, hc.2.2.1, hn ▸ hc.2.2.2.1, hc.2.2.2.2⟩)) ?_
    simp (disch := (first | omega | (simp only [List.length_map]; omega) | (simp only [stLen] <;> omega) | (simp only [all_nv]; done) | rfl)) only [↓stPre, zC, zD, zF, zG, zH, Nat.reduceEqDiff, Nat.reduceLT, Nat.reduceLeDiff, ↓reduceIte, xf87]
    simp [ground, scal]
theorem FN.gc0c {P : Program} {f : FuncId} {args : List Value} {H : AH} {R : Value → Prop} (h : FN P f args H (fun v H' => R v ∧ clo v = true ∧ ∃ J, H' = H ++ J)) : FN P f args H (fun v H' => R v ∧ H' = H) := by
  obtain ⟨hc, v, H', ⟨hR, hg, J, rfl⟩, hs⟩ := h
  refine ⟨hc, v, H, ⟨hR, rfl⟩, hs.rename (fun b => if b < H.length then some b else none) (fun b hb => by simp [hb]) (fun b o hb ho => ?_) (fun b b' o h1 h2 => ?_) (VR.of_clo hg _) (Nat.le_refl _) (fun b hb => ?_)⟩
  · simp [Nat.not_lt.2 hb] at ho
  · split at h1 <;> split at h2 <;> simp_all
  · have : (H ++ J)[b]? = H[b]? := List.getElem?_append_left hb
    exact ⟨this.symm, .inl this⟩
end Go.Sim.Pf

namespace Go.Sim.Pf
open Go Go.Proofs
theorem ints_spec {b1 b2 n1 n2 c1 c2 : Nat} {X Y : List Nat} {H : AH} {el1 el2 : TypeId} {op1 op2 : Option Nat} {r1 r2 : Bool} (h1 : H[b1]? = some (.cells (X.map nv) el1 op1 r1)) (h2 : H[b2]? = some (.cells (Y.map nv) el2 op2 r2)) (hn1 : n1 = X.length) (hn2 : n2 = Y.length) (hl : n1 ≤ 100) :
    FN Try.prog 179 [.slice (some ⟨b1, 0, none⟩) n1 c1, .slice (some ⟨b2, 0, none⟩) n2 c2] H (fun v H' => v = .bool (decide (X = Y)) ∧ H' = H) := by
  refine FN.gc0 (FN.of_compZ mixed xf179_ok (Nat.le_of_ble_eq_true rfl) ?_)
  by_cases hln : n1 = n2
  · by_cases hXY : X = Y
    · simp (disch := (first | omega | (simp only [List.length_map]; omega) | (simp only [stLen] <;> omega) | (simp only [all_nv]; done) | rfl)) only [↓stPre, zC, zD, zF, zG, zH, Nat.reduceEqDiff, Nat.reduceLT, Nat.reduceLeDiff, ↓reduceIte, xf179, hln]
      refine LZ.nat n2 (fun k s H' => s.env 0 = .slice (some ⟨b1, 0, none⟩) n2 c1 ∧ s.env 1 = .slice (some ⟨b2, 0, none⟩) n2 c2 ∧ s.env 5 = nv k ∧ s.ds = [] ∧ H' = H) ?_ ?_ ?_
      · simp (disch := (first | omega | (simp only [List.length_map]; omega) | (simp only [stLen] <;> omega) | (simp only [all_nv]; done) | rfl)) only [↓stPre, zC, zD, zF, zG, zH, Nat.reduceEqDiff, Nat.reduceLT, Nat.reduceLeDiff, ↓reduceIte]
        simp [hln]
      · rintro k s H1 hk ⟨e0, e1, e5, eds, rfl⟩
        have hg : X.getD k 0 = Y.getD k 0 := by rw [hXY]
        simp (disch := (first | omega | (simp only [List.length_map]; omega) | (simp only [stLen] <;> omega) | (simp only [all_nv]; done) | rfl)) only [↓stPre, zC, zD, zF, zG, zH, Nat.reduceEqDiff, Nat.reduceLT, Nat.reduceLeDiff, ↓reduceIte, e0, e1, e5, eds, hk, h1, h2, hg]
      · rintro s H1 ⟨e0, e1, e5, eds, rfl⟩
        simp (disch := (first | omega | (simp only [List.length_map]; omega) | (simp only [stLen] <;> omega) | (simp only [all_nv]; done) | rfl)) only [↓stPre, zC, zD, zF, zG, zH, Nat.reduceEqDiff, Nat.reduceLT, Nat.reduceLeDiff, ↓reduceIte, e0, e1, e5, eds, xf179]
        simp [ground, scal, hXY]
    · obtain ⟨i0, hi0, hne0⟩ := neq_at (by omega) hXY
      obtain ⟨i, ⟨hi, hne⟩, hlo⟩ := least (fun i => i < X.length ∧ X.getD i 0 ≠ Y.getD i 0) i0 ⟨hi0, hne0⟩
      simp (disch := (first | omega | (simp only [List.length_map]; omega) | (simp only [stLen] <;> omega) | (simp only [all_nv]; done) | rfl)) only [↓stPre, zC, zD, zF, zG, zH, Nat.reduceEqDiff, Nat.reduceLT, Nat.reduceLeDiff, ↓reduceIte, xf179, hln]
      refine LZ.nat i (fun k s H' => s.env 0 = .slice (some ⟨b1, 0, none⟩) n2 c1 ∧ s.env 1 = .slice (some ⟨b2, 0, none⟩) n2 c2 ∧ s.env 5 = nv k ∧ s.ds = [] ∧ H' = H) ?_ ?_ ?_
      · simp (disch := (first | omega | (simp only [List.length_map]; omega) | (simp only [stLen] <;> omega) | (simp only [all_nv]; done) | rfl)) only [↓stPre, zC, zD, zF, zG, zH, Nat.reduceEqDiff, Nat.reduceLT, Nat.reduceLeDiff, ↓reduceIte]
        simp [hln]
      · rintro k s H1 hk ⟨e0, e1, e5, eds, rfl⟩
        have hg : X.getD k 0 = Y.getD k 0 := by
          have := hlo k hk
          rcases Nat.decEq (X.getD k 0) (Y.getD k 0) with h | h
          · exact absurd ⟨by omega, h⟩ this
          · exact h
        have hk2 : k < n2 := by omega
        simp (disch := (first | omega | (simp only [List.length_map]; omega) | (simp only [stLen] <;> omega) | (simp only [all_nv]; done) | rfl)) only [↓stPre, zC, zD, zF, zG, zH, Nat.reduceEqDiff, Nat.reduceLT, Nat.reduceLeDiff, ↓reduceIte, e0, e1, e5, eds, hk2, h1, h2, hg]
      · rintro s H1 ⟨e0, e1, e5, eds, rfl⟩
        have hk2 : i < n2 := by omega
        simp (disch := (first | omega | (simp only [List.length_map]; omega) | (simp only [stLen] <;> omega) | (simp only [all_nv]; done) | rfl)) only [↓stPre, zC, zD, zF, zG, zH, Nat.reduceEqDiff, Nat.reduceLT, Nat.reduceLeDiff, ↓reduceIte, e0, e1, e5, eds, hk2, h1, h2, hne, xf179]
        simp [ground, scal, hXY]
  · have hXY : X ≠ Y := fun h => hln (by rw [hn1, hn2, h])
    simp (disch := (first | omega | (simp only [List.length_map]; omega) | (simp only [stLen] <;> omega) | (simp only [all_nv]; done) | rfl)) only [↓stPre, zC, zD, zF, zG, zH, Nat.reduceEqDiff, Nat.reduceLT, Nat.reduceLeDiff, ↓reduceIte, xf179, hln]
    simp [ground, scal, hXY]
theorem same_spec {p1 e1 b1 n1 c1 p2 e2 b2 n2 c2 : Nat} {X Y : List Nat} {H : AH} {el1 el2 : TypeId} {op1 op2 : Option Nat} {r1 r2 : Bool} (h1 : H[b1]? = some (.cells (X.map nv) el1 op1 r1)) (h2 : H[b2]? = some (.cells (Y.map nv) el2 op2 r2)) (hn1 : n1 = X.length) (hn2 : n2 = Y.length) (hl : n1 ≤ 100) :
    FN Try.prog 151 [fldv p1 e1 b1 n1 c1, fldv p2 e2 b2 n2 c2] H (fun v H' => v = .bool (decide (p1 = p2) && decide (e1 = e2) && decide (X = Y)) ∧ H' = H) := by
  have g1 := fun (Y : AH) => get_old (L := Y) h1
  have g2 := fun (Y : AH) => get_old (L := Y) h2
  refine FN.gc0 (FN.of_compZ mixed xf151_ok (Nat.le_of_ble_eq_true rfl) ?_)
  by_cases hp : p1 = p2
  · by_cases he : e1 = e2
    · simp (disch := (first | omega | (simp only [List.length_map]; omega) | (simp only [stLen] <;> omega) | (simp only [all_nv]; done) | rfl)) only [↓stPre, zC, zD, zF, zG, zH, Nat.reduceEqDiff, Nat.reduceLT, Nat.reduceLeDiff, ↓reduceIte, xf151, hp, he]
      refine FZ.use (ints_spec (g1 _) (g2 _) hn1 hn2 hl) ?_
      simp (disch := (first | omega | (simp only [List.length_map]; omega) | (simp only [stLen] <;> omega) | (simp only [all_nv]; done) | rfl)) only [↓stPre, zC, zD, zF, zG, zH, Nat.reduceEqDiff, Nat.reduceLT, Nat.reduceLeDiff, ↓reduceIte, xf151]
      simp [ground, scal, hp, he]
    · simp (disch := (first | omega | (simp only [List.length_map]; omega) | (simp only [stLen] <;> omega) | (simp only [all_nv]; done) | rfl)) only [↓stPre, zC, zD, zF, zG, zH, Nat.reduceEqDiff, Nat.reduceLT, Nat.reduceLeDiff, ↓reduceIte, xf151, hp, he]
      simp [ground, scal, hp, he]
  · simp (disch := (first | omega | (simp only [List.length_map]; omega) | (simp only [stLen] <;> omega) | (simp only [all_nv]; done) | rfl)) only [↓stPre, zC, zD, zF, zG, zH, Nat.reduceEqDiff, Nat.reduceLT, Nat.reduceLeDiff, ↓reduceIte, xf151, hp]
    simp [ground, scal, hp]
theorem rpowG_spec {p e : Nat} {H : AH} (hp0 : 1 ≤ p) (hp : p ≤ 100) (he : e ≤ 8) : FN Try.prog 108 [nv p, nv e] H (fun v H' => v = nv (p ^ e) ∧ H' = H) := by
  have hbd : ∀ k, k ≤ 8 → p ^ k ≤ 10000000000000000 := fun k hk => Nat.le_trans (Nat.pow_le_pow_left hp k) (Nat.le_trans (Nat.pow_le_pow_right (by omega) hk) (by decide))
  refine FN.gc0 (FN.of_compZ mixed xf108_ok (Nat.le_of_ble_eq_true rfl) ?_)
  simp (disch := (first | omega | (simp only [List.length_map]; omega) | (simp only [stLen] <;> omega) | (simp only [all_nv]; done) | rfl)) only [↓stPre, zC, zD, zF, zG, zH, Nat.reduceEqDiff, Nat.reduceLT, Nat.reduceLeDiff, ↓reduceIte, xf108]
  refine LZ.nat e (fun k s H' => s.env 0 = nv p ∧ s.env 1 = nv e ∧ s.env 5 = nv (p ^ k) ∧ s.env 6 = nv k ∧ s.ds = [] ∧ H' = H) ?_ ?_ ?_
  · simp (disch := (first | omega | (simp only [List.length_map]; omega) | (simp only [stLen] <;> omega) | (simp only [all_nv]; done) | rfl)) only [↓stPre, zC, zD, zF, zG, zH, Nat.reduceEqDiff, Nat.reduceLT, Nat.reduceLeDiff, ↓reduceIte]
    simp
  · rintro k s H1 hk ⟨e0, e1, e5, e6, eds, rfl⟩
    have h2 := hbd (k + 1) (by omega)
    rw [Nat.pow_succ] at h2
    simp (disch := (first | omega | (simp only [List.length_map]; omega) | (simp only [stLen] <;> omega) | (simp only [all_nv]; done) | rfl)) only [↓stPre, zC, zD, zF, zG, zH, Nat.reduceEqDiff, Nat.reduceLT, Nat.reduceLeDiff, ↓reduceIte, e0, e1, e5, e6, eds, hk]
    simp [Nat.pow_succ]
  · rintro s H1 ⟨e0, e1, e5, e6, eds, rfl⟩
    simp (disch := (first | omega | (simp only [List.length_map]; omega) | (simp only [stLen] <;> omega) | (simp only [all_nv]; done) | rfl)) only [↓stPre, zC, zD, zF, zG, zH, Nat.reduceEqDiff, Nat.reduceLT, Nat.reduceLeDiff, ↓reduceIte, e0, e1, e5, e6, eds, xf108]
    simp [ground, scal]
theorem stB_two {H : AH} {x y : Value} {el : TypeId} {op : Option Nat} {bl p e : Nat} : stB 2 H (some (.cells [x, y] el op false)) bl 0 (.agg [nv p, nv e].toArray) = some (undef, H.set bl (.cells [nv p, nv e] el op false)) :=
  stB_all (n := 2) (c := [x, y]) (c' := [nv p, nv e]) rfl rfl rfl
theorem partsF_spec {q : Int} {H : AH} (hq : q < 2 ∨ 64 < q) : FN Try.prog 155 [.int .i64 q] H (fun v H' => v = .agg [nv 0, nv 0].toArray ∧ H' = H) := by
  refine FN.gc0c (FN.of_compZ mixed xf155_ok (Nat.le_of_ble_eq_true rfl) ?_)
  by_cases h1 : q < 2
  · have h1' : q < ((2 : Nat) : Int) := h1
    simp (disch := omega) only [↓stPre, zC, zE, zF, zG, zH, Nat.reduceEqDiff, Nat.reduceLT, Nat.reduceLeDiff, ↓reduceIte, xf155, h1']
    simp (disch := (first | omega | (simp only [List.length_map]; omega) | (simp only [stLen] <;> omega) | (simp only [all_nv]; done) | rfl)) only [↓stPre, zC, zD, zF, zG, zH, Nat.reduceEqDiff, Nat.reduceLT, Nat.reduceLeDiff, ↓reduceIte, xf155, xfill, putL, stB_two]
    simp [ground, scal, clo]
  · have h1' : ¬ q < ((2 : Nat) : Int) := h1
    have h2' : ((64 : Nat) : Int) < q := by omega
    simp (disch := omega) only [↓stPre, zC, zE, zF, zG, zH, Nat.reduceEqDiff, Nat.reduceLT, Nat.reduceLeDiff, ↓reduceIte, xf155, h1', h2']
    simp (disch := (first | omega | (simp only [List.length_map]; omega) | (simp only [stLen] <;> omega) | (simp only [all_nv]; done) | rfl)) only [↓stPre, zC, zD, zF, zG, zH, Nat.reduceEqDiff, Nat.reduceLT, Nat.reduceLeDiff, ↓reduceIte, xf155, xfill, putL, stB_two]
    simp [ground, scal, clo]
theorem rmakeF_spec {q : Int} {H : AH} (hq : q < 2 ∨ 64 < q) : FN Try.prog 110 [.int .i64 q] H (fun v H' => v = .tuple [.agg [nv 0, nv 0, .slice none 0 0].toArray, nv 1].toArray ∧ H' = H) := by
  refine FN.gc0c (FN.of_compZ mixed xf110_ok (Nat.le_of_ble_eq_true rfl) ?_)
  simp (disch := (first | omega | (simp only [List.length_map]; omega) | (simp only [stLen] <;> omega) | (simp only [all_nv]; done) | rfl)) only [↓stPre, zC, zD, zF, zG, zH, Nat.reduceEqDiff, Nat.reduceLT, Nat.reduceLeDiff, ↓reduceIte, xf110]
  refine FZ.use (partsF_spec hq) ?_
  simp (disch := (first | omega | (simp only [List.length_map]; omega) | (simp only [stLen] <;> omega) | (simp only [all_nv]; done) | rfl)) only [↓stPre, zC, zD, zF, zG, zH, Nat.reduceEqDiff, Nat.reduceLT, Nat.reduceLeDiff, ↓reduceIte, xf110, xfill, putL, stB_two, stB_fld0]
  simp [ground, scal, clo]
theorem make11 (q : Nat) (hq : q < 65) : KnownOk Try.prog 110 [nv q] (mkR (mkT.getD q none)) := by
  have e : kMakr = (List.range 65).map fun q => ([nv q], mkR (mkT.getD q none)) := by kernel_rfl
  exact kMakr_ok _ (by rw [e]; exact List.mem_map.2 ⟨q, List.mem_range.2 hq, rfl⟩)
def rvalidB (p e : Nat) (m : List Nat) : Bool :=
  if 2 ≤ p ∧ p ≤ 64 ∧ 1 ≤ e ∧ e ≤ 6 then (if p ^ e ≤ 64 then (match mkT.getD (p ^ e) none with | some x => decide (p = x.1) && decide (e = x.2.1) && decide (m = x.2.2) | none => false) else false) else false
theorem rvalid_spec {p e b n c : Nat} {m : List Nat} {H : AH} {el : TypeId} {op : Option Nat} {r : Bool} (hb : H[b]? = some (.cells (m.map nv) el op r)) (hn : n = m.length) (hp : p ≤ 100) (he : e ≤ 100) (hl : n ≤ 100) :
    FN Try.prog 105 [fldv p e b n c] H (fun v H' => v = .bool (rvalidB p e m) ∧ H' = H) := by
  have hb2 := fun (Y : AH) => get_old (L := Y) hb
  refine FN.gc0 (FN.of_compZ mixed xf105_ok (Nat.le_of_ble_eq_true rfl) ?_)
  by_cases h : 2 ≤ p ∧ p ≤ 64 ∧ 1 ≤ e ∧ e ≤ 6
  · obtain ⟨h1, h2, h3, h4⟩ := h
    have n1 : ¬ p < 2 := by omega
    have n2 : ¬ 64 < p := by omega
    have n3 : ¬ e < 1 := by omega
    have n4 : ¬ 6 < e := by omega
    simp (disch := (first | omega | (simp only [List.length_map]; omega) | (simp only [stLen] <;> omega) | (simp only [all_nv]; done) | rfl)) only [↓stPre, zC, zD, zF, zG, zH, Nat.reduceEqDiff, Nat.reduceLT, Nat.reduceLeDiff, ↓reduceIte, xf105, n1, n2, n3, n4]
    refine FZ.use (rpowG_spec (by omega) (by omega) (by omega)) ?_
    simp (disch := (first | omega | (simp only [List.length_map]; omega) | (simp only [stLen] <;> omega) | (simp only [all_nv]; done) | rfl)) only [↓stPre, zC, zD, zF, zG, zH, Nat.reduceEqDiff, Nat.reduceLT, Nat.reduceLeDiff, ↓reduceIte, xf105]
    by_cases hq : p ^ e ≤ 64
    · have hv : rvalidB p e m = (match mkT.getD (p ^ e) none with | some x => decide (p = x.1) && decide (e = x.2.1) && decide (m = x.2.2) | none => false) := by unfold rvalidB; rw [if_pos ⟨h1, h2, h3, h4⟩, if_pos hq]
      have hk := make11 (p ^ e) (by omega)
      have hlen := mkT_len (p ^ e) (by omega)
      rw [hv]
      cases hx : mkT.getD (p ^ e) none with
      | none =>
        rw [hx] at hk
        refine FZ.known hk ?_
        simp (disch := (first | omega | (simp only [List.length_map]; omega) | (simp only [stLen] <;> omega) | (simp only [all_nv]; done) | rfl)) only [↓stPre, zC, zD, zF, zG, zH, Nat.reduceEqDiff, Nat.reduceLT, Nat.reduceLeDiff, ↓reduceIte, mkR, KRes.mk, KRes.hp, stB_fld0, xf105, Nat.reduceAdd]
        simp [ground, scal]
      | some x =>
        obtain ⟨p2, e2, m2⟩ := x
        rw [hx] at hk
        obtain ⟨q1, q2, q3, _⟩ := hlen _ hx
        simp only at q1 q2 q3
        refine FZ.known hk ?_
        simp (disch := (first | omega | (simp only [List.length_map]; omega) | (simp only [stLen] <;> omega) | (simp only [all_nv]; done) | rfl)) only [↓stPre, zC, zD, zF, zG, zH, Nat.reduceEqDiff, Nat.reduceLT, Nat.reduceLeDiff, ↓reduceIte, mkR, KRes.mk, KRes.hp, stB_fld, xf105, Nat.reduceAdd]
        refine FZ.use (same_spec (hb2 _) (get_new.trans rfl) hn q1.symm hl) ?_
        simp (disch := (first | omega | (simp only [List.length_map]; omega) | (simp only [stLen] <;> omega) | (simp only [all_nv]; done) | rfl)) only [↓stPre, zC, zD, zF, zG, zH, Nat.reduceEqDiff, Nat.reduceLT, Nat.reduceLeDiff, ↓reduceIte, xf105]
        simp [ground, scal]
    · have hv : rvalidB p e m = false := by unfold rvalidB; rw [if_pos ⟨h1, h2, h3, h4⟩, if_neg hq]
      rw [hv]
      refine FZ.use (rmakeF_spec (.inr (by omega))) ?_
      simp (disch := (first | omega | (simp only [List.length_map]; omega) | (simp only [stLen] <;> omega) | (simp only [all_nv]; done) | rfl)) only [↓stPre, zC, zD, zF, zG, zH, Nat.reduceEqDiff, Nat.reduceLT, Nat.reduceLeDiff, ↓reduceIte, stB_fld0, xf105, Nat.reduceAdd]
      simp [ground, scal]
  · have hv : rvalidB p e m = false := by unfold rvalidB; rw [if_neg h]
    rw [hv]
    by_cases n1 : p < 2
    · simp (disch := (first | omega | (simp only [List.length_map]; omega) | (simp only [stLen] <;> omega) | (simp only [all_nv]; done) | rfl)) only [↓stPre, zC, zD, zF, zG, zH, Nat.reduceEqDiff, Nat.reduceLT, Nat.reduceLeDiff, ↓reduceIte, xf105, n1]
      simp [ground, scal]
    by_cases n2 : 64 < p
    · simp (disch := (first | omega | (simp only [List.length_map]; omega) | (simp only [stLen] <;> omega) | (simp only [all_nv]; done) | rfl)) only [↓stPre, zC, zD, zF, zG, zH, Nat.reduceEqDiff, Nat.reduceLT, Nat.reduceLeDiff, ↓reduceIte, xf105, n1, n2]
      simp [ground, scal]
    by_cases n3 : e < 1
    · simp (disch := (first | omega | (simp only [List.length_map]; omega) | (simp only [stLen] <;> omega) | (simp only [all_nv]; done) | rfl)) only [↓stPre, zC, zD, zF, zG, zH, Nat.reduceEqDiff, Nat.reduceLT, Nat.reduceLeDiff, ↓reduceIte, xf105, n1, n2, n3]
      simp [ground, scal]
    · have n4 : 6 < e := by
        rcases Nat.lt_or_ge 6 e with h5 | h5
        · exact h5
        · exact absurd ⟨by omega, by omega, by omega, h5⟩ h
      simp (disch := (first | omega | (simp only [List.length_map]; omega) | (simp only [stLen] <;> omega) | (simp only [all_nv]; done) | rfl)) only [↓stPre, zC, zD, zF, zG, zH, Nat.reduceEqDiff, Nat.reduceLT, Nat.reduceLeDiff, ↓reduceIte, xf105, n1, n2, n3, n4]
      simp [ground, scal]
end Go.Sim.Pf

namespace Go.Sim.Pf
structure Lin (p : Nat) (l3 l1 l2 : List Nat) : Prop where
  n1 : l1.length = l3.length
  n2 : l2.length = l3.length
  b3 : ∀ z ∈ l3, z < p
  b1 : ∀ z ∈ l1, z < p
  b2 : ∀ z ∈ l2, z < p
  at_ : ∀ j, ∃ t : Int, (l3.getD j 0 : Int) = l1.getD j 0 + l2.getD j 0 + p * t
theorem mem_set_lt {p v i : Nat} {l : List Nat} (h : ∀ z ∈ l, z < p) (hv : v < p) : ∀ z ∈ l.set i v, z < p := by
  intro z hz
  rcases List.mem_or_eq_of_mem_set hz with h1 | rfl
  · exact h z h1
  · exact hv
theorem Lin.set {p i v3 v1 v2 : Nat} {l3 l1 l2 : List Nat} (h : Lin p l3 l1 l2) (h3 : v3 < p) (h1 : v1 < p) (h2 : v2 < p) (hv : ∃ t : Int, (v3 : Int) = v1 + v2 + p * t) : Lin p (l3.set i v3) (l1.set i v1) (l2.set i v2) := by
  refine ⟨by simp [h.n1], by simp [h.n2], mem_set_lt h.b3 h3, mem_set_lt h.b1 h1, mem_set_lt h.b2 h2, fun j => ?_⟩
  by_cases hi : i < l3.length
  · rw [getD_set hi, getD_set (h.n1 ▸ hi), getD_set (h.n2 ▸ hi)]
    by_cases hj : i = j
    · rw [if_pos hj, if_pos hj, if_pos hj]; exact hv
    · rw [if_neg hj, if_neg hj, if_neg hj]; exact h.at_ j
  · rw [List.set_eq_of_length_le (by omega), List.set_eq_of_length_le (by have := h.n1; omega), List.set_eq_of_length_le (by have := h.n2; omega)]
    exact h.at_ j
theorem mod_lin {p a3 a1 a2 : Nat} {t : Int} (h : (a3 : Int) = a1 + a2 + p * t) : ∃ s : Int, ((a3 % p : Nat) : Int) = (a1 % p : Nat) + (a2 % p : Nat) + p * s := by
  have e3 := Int.mul_ediv_add_emod (a3 : Int) p
  have e1 := Int.mul_ediv_add_emod (a1 : Int) p
  have e2 := Int.mul_ediv_add_emod (a2 : Int) p
  simp only [Int.natCast_emod]
  generalize (a3 : Int) / p = q3 at *
  generalize (a1 : Int) / p = q1 at *
  generalize (a2 : Int) / p = q2 at *
  exact ⟨t - q3 + q1 + q2, by grind⟩
theorem Lin.fold {p : Nat} {f3 f1 f2 : List Nat → Nat → List Nat} (h : ∀ k l3 l1 l2, Lin p l3 l1 l2 → Lin p (f3 l3 k) (f1 l1 k) (f2 l2 k)) : ∀ (ks : List Nat) (l3 l1 l2 : List Nat), Lin p l3 l1 l2 → Lin p (ks.foldl f3 l3) (ks.foldl f1 l1) (ks.foldl f2 l2)
  | [], _, _, _, hl => hl
  | k :: ks, _, _, _, hl => Lin.fold h ks _ _ _ (h k _ _ _ hl)
theorem mulL_lin {p e : Nat} {x3 y3 x1 y1 x2 y2 : List Nat} (hp : 0 < p) (h : ∀ i k, ∃ t : Int, (x3.getD i 0 : Int) * y3.getD k 0 = x1.getD i 0 * y1.getD k 0 + x2.getD i 0 * y2.getD k 0 + p * t) : Lin p (mulL p e x3 y3) (mulL p e x1 y1) (mulL p e x2 y2) := by
  refine Lin.fold (fun i l3 l1 l2 hl => Lin.fold (fun k l3 l1 l2 hl => ?_) _ _ _ _ hl) _ _ _ _ ?_
  · obtain ⟨t1, h1⟩ := hl.at_ (i + k)
    obtain ⟨t2, h2⟩ := h i k
    refine hl.set (Nat.mod_lt _ hp) (Nat.mod_lt _ hp) (Nat.mod_lt _ hp) (mod_lin (t := t1 + t2) ?_)
    simp only [Int.natCast_add, Int.natCast_mul]
    rw [h1, h2]
    grind
  · have hz : ∀ z ∈ List.replicate (2 * e) 0, z < p := by intro z hz; rw [List.mem_replicate] at hz; omega
    refine ⟨rfl, rfl, hz, hz, hz, fun j => ⟨0, ?_⟩⟩
    have : (List.replicate (2 * e) 0).getD j 0 = 0 := by
      simp only [List.getD_eq_getElem?_getD, List.getElem?_replicate]; split <;> rfl
    rw [this]; rfl
theorem restL_lin {p d : Nat} {m l3 l1 l2 : List Nat} (hp : 0 < p) (h : Lin p l3 l1 l2) : Lin p (restL p d m l3) (restL p d m l1) (restL p d m l2) := by
  unfold restL
  rw [h.n1, h.n2]
  refine Lin.fold (fun t l3 l1 l2 hl => ?_) _ _ _ _ h
  unfold restI
  rw [hl.n1, hl.n2]
  obtain ⟨s, hs⟩ := hl.at_ (l3.length - 1 - t)
  have c3 := getD_lt (k := l3.length - 1 - t) hp hl.b3
  have c1 := getD_lt (k := l3.length - 1 - t) hp hl.b1
  have c2 := getD_lt (k := l3.length - 1 - t) hp hl.b2
  generalize l3.getD (l3.length - 1 - t) 0 = C3 at *
  generalize l1.getD (l3.length - 1 - t) 0 = C1 at *
  generalize l2.getD (l3.length - 1 - t) 0 = C2 at *
  generalize l3.length - 1 - t - d = B
  refine Lin.fold (fun k l3 l1 l2 hl => ?_) _ _ _ _ hl
  obtain ⟨t1, h1⟩ := hl.at_ (B + k)
  refine hl.set (Nat.mod_lt _ hp) (Nat.mod_lt _ hp) (Nat.mod_lt _ hp) (mod_lin (t := t1 - (1 + s) * m.getD k 0) ?_)
  have g3 : ((p - C3 : Nat) : Int) = (p : Int) - C3 := by omega
  have g1 : ((p - C1 : Nat) : Int) = (p : Int) - C1 := by omega
  have g2 : ((p - C2 : Nat) : Int) = (p : Int) - C2 := by omega
  simp only [Int.natCast_add, Int.natCast_mul, g3, g1, g2]
  rw [h1, hs]
  grind
theorem digE {p e a : Nat} (j : Nat) : (digs p a e).getD j 0 = if j < e then dg p a j else 0 := by
  by_cases h : j < e
  · rw [if_pos h, digs_getD p e a j h]; rfl
  · rw [if_neg h, List.getD_eq_getElem?_getD, List.getElem?_eq_none (by rw [digs_length]; omega)]; rfl
theorem rmul_bil {p e : Nat} {m : List Nat} (F : Fd p e m) {a1 b1 a2 b2 a3 b3 : Nat} (h : ∀ i j, i < e → j < e → ∃ t : Int, (dg p a3 i : Int) * dg p b3 j = dg p a1 i * dg p b1 j + dg p a2 i * dg p b2 j + p * t) :
    rmulF p e m a3 b3 = addF p e (rmulF p e m a1 b1) (rmulF p e m a2 b2) := by
  have hp : 0 < p := by have := F.p2; omega
  have hL := restL_lin (d := e) (m := m ++ [1]) hp (mulL_lin (e := e) (x3 := digs p a3 e) (y3 := digs p b3 e) (x1 := digs p a1 e) (y1 := digs p b1 e) (x2 := digs p a2 e) (y2 := digs p b2 e) hp (fun i k => by
    simp only [digE]
    by_cases hi : i < e
    · by_cases hk : k < e
      · simp only [hi, hk, if_true]; exact h i k hi hk
      · exact ⟨0, by simp [hk]⟩
    · exact ⟨0, by simp [hi]⟩))
  have hlen : ∀ x y, (restL p e (m ++ [1]) (mulL p e (digs p x e) (digs p y e))).length = 2 * e ∧ ∀ z ∈ restL p e (m ++ [1]) (mulL p e (digs p x e) (digs p y e)), z < p := by
    intro x y
    have hz0 : ∀ z ∈ List.replicate (2 * e) 0, z < p := by intro z hz; rw [List.mem_replicate] at hz; omega
    have q := fold_ok (f := mulI p e (digs p x e) (digs p y e)) (p := p) (n := 2 * e) (fun out k h1 h2 => fold_ok (fun out k h1 h2 => mulK_ok hp h1 h2) _ _ h1 h2) (List.range e) (List.replicate (2 * e) 0) (by simp) hz0
    exact fold_ok (f := restI p e (m ++ [1])) (p := p) (n := 2 * e) (fun out k h1 h2 => restI_ok hp h1 h2) _ _ q.1 q.2
  have hdg : ∀ x y i, i < e → dg p (rmulF p e m x y) i = (restL p e (m ++ [1]) (mulL p e (digs p x e) (digs p y e))).getD i 0 := by
    intro x y i hi
    unfold dg rmulF
    rw [num_digit hp _ (fun z hz => (hlen x y).2 z (List.mem_of_mem_take hz))]
    simp only [List.getD_eq_getElem?_getD, List.getElem?_take, if_pos hi]
  have hlt : ∀ x y, rmulF p e m x y < p ^ e := by
    intro x y
    have := num_lt (p := p) hp ((restL p e (m ++ [1]) (mulL p e (digs p x e) (digs p y e))).take e) (fun z hz => (hlen x y).2 z (List.mem_of_mem_take hz))
    rwa [List.length_take, (hlen x y).1, Nat.min_eq_left (by omega)] at this
  refine digit_ext hp e _ _ (hlt _ _) (addF_lt hp) (fun i hi => ?_)
  refine Eq.trans ?_ (addF_dg (a := rmulF p e m a1 b1) (b := rmulF p e m a2 b2) hp hi).symm
  obtain ⟨t, ht⟩ := hL.at_ i
  rw [← hdg _ _ i hi, ← hdg _ _ i hi, ← hdg _ _ i hi] at ht
  exact mod_of hp (dg_lt hp) ht
def rmB (p e : Nat) (m : List Nat) : Bool := (List.range e).all fun i => (List.range e).all fun j => Nat.beq (rmulF p e m (p ^ i) (p ^ j)) (mulF p e m (p ^ i) (p ^ j))
theorem rmul_eq {p e : Nat} {m : List Nat} {g : Nat} {E : List Nat} (F : FT p e m g E) (hr : rmB p e m = true) (a b : Nat) (ha : a < p ^ e) (hb : b < p ^ e) : rmulF p e m a b = mulF p e m a b := by
  have hp := F.hp
  have hadd1 : ∀ a b c, rmulF p e m (addF p e a b) c = addF p e (rmulF p e m a c) (rmulF p e m b c) := fun a b c => by
    refine rmul_bil F.toFd (fun i j hi hj => ?_)
    obtain ⟨t, ht⟩ := add_dg_int (p := p) (e := e) (a := a) (b := b) hp hi
    exact ⟨t * dg p c j, by rw [ht]; grind⟩
  have hadd2 : ∀ a b c, rmulF p e m a (addF p e b c) = addF p e (rmulF p e m a b) (rmulF p e m a c) := fun a b c => by
    refine rmul_bil F.toFd (fun i j hi hj => ?_)
    obtain ⟨t, ht⟩ := add_dg_int (p := p) (e := e) (a := b) (b := c) hp hj
    exact ⟨t * dg p a i, by rw [ht]; grind⟩
  have hz : ∀ x, addF p e x x = x → x < p ^ e → x = 0 := fun x hx hlt => by
    have h1 := sub_addF (e := e) (a := x) (b := x) hp hlt
    rw [hx] at h1
    have h2 : subF p e x x = 0 := by
      refine digit_ext hp e _ _ (subF_lt hp) (Nat.pow_pos hp) (fun i hi => ?_)
      refine (subF_dg hp hi).trans ?_
      have := dg_lt (p := p) (a := x) (i := i) hp
      rw [show dg p x i + p - dg p x i = p by omega, Nat.mod_self]
      exact dg_zero.symm
    omega
  have h00 : addF p e 0 0 = 0 := addF_zero hp (Nat.pow_pos hp)
  have hlt : ∀ a b, rmulF p e m a b = 0 ∨ rmulF p e m a b < p ^ e := fun a b => by
    right
    have h := rmul_bil F.toFd (a3 := a) (b3 := b) (a1 := a) (b1 := b) (a2 := 0) (b2 := 0) (fun i j hi hj => ⟨0, by simp [dg_zero]⟩)
    rw [h]; exact addF_lt hp
  have hr0 : ∀ b, rmulF p e m 0 b = 0 := fun b => by
    have h := hadd1 0 0 b
    rw [h00] at h
    rcases hlt 0 b with h1 | h1
    · exact h1
    · exact hz _ h.symm h1
  have hr1 : ∀ a, rmulF p e m a 0 = 0 := fun a => by
    have h := hadd2 a 0 0
    rw [h00] at h
    rcases hlt a 0 with h1 | h1
    · exact h1
    · exact hz _ h.symm h1
  refine F.gen (fun a => rmulF p e m a b = mulF p e m a b) ?_ (fun i hi => ?_) (fun x y hx hy => ?_) a ha
  · rw [hr0, mul_zeroF F.toFd _ _ (.inl rfl)]
  · refine F.gen (fun b => rmulF p e m (p ^ i) b = mulF p e m (p ^ i) b) ?_ (fun j hj => ?_) (fun x y hx hy => ?_) b hb
    · rw [hr1, mul_zeroF F.toFd _ _ (.inr rfl)]
    · exact Nat.eq_of_beq_eq_true (List.all_eq_true.1 (List.all_eq_true.1 hr i (List.mem_range.2 hi)) j (List.mem_range.2 hj))
    · rw [hadd2, mul_addF F.toFd, hx, hy]
  · rw [hadd1, add_mulF F.toFd, hx, hy]
theorem rsub_eq {p e a b : Nat} (hp : 0 < p) : addF p e a (negF p e b) = subF p e a b := by
  have hneg : ∀ i, i < e → dg p (negF p e b) i = (p - dg p b i) % p := by
    intro i hi
    have hl : ∀ z ∈ negL p (digs p b e), z < p := by
      intro z hz
      simp only [negL, List.mem_map] at hz
      obtain ⟨w, _, rfl⟩ := hz
      exact Nat.mod_lt _ hp
    unfold negF
    have h1 := num_digit hp (negL p (digs p b e)) hl i
    refine h1.trans ?_
    have l1 := digs_length p e b
    have h2 : dg p b i = (digs p b e).getD i 0 := (digs_getD p e b i hi).symm
    rw [h2]
    simp only [negL, List.getD_eq_getElem?_getD, List.getElem?_map]
    rw [List.getElem?_eq_getElem (by omega)]
    rfl
  refine digit_ext hp e _ _ (addF_lt hp) (subF_lt hp) (fun i hi => ?_)
  refine (addF_dg hp hi).trans (Eq.trans ?_ (subF_dg hp hi).symm)
  rw [hneg i hi, Nat.add_mod_mod]
  have := dg_lt (p := p) (a := b) (i := i) hp
  congr 1; omega
end Go.Sim.Pf

namespace Go.Sim.Pf
open Go Go.Proofs
structure FM (p e : Nat) (m : List Nat) (g : Nat) (E fs : List Nat) : Prop extends FT p e m g E where
  rm : rmB p e m = true
theorem neg_eq {p e b : Nat} (hp : 0 < p) : negF p e b = subF p e 0 b := by
  have h := rsub_eq (e := e) (a := 0) (b := b) hp
  have hl : (negL p (digs p b e)).length = e := by simp [negL, digs_length]
  have hlt : negF p e b < p ^ e := by
    have := num_lt (p := p) hp (negL p (digs p b e)) (by
      intro z hz
      simp only [negL, List.mem_map] at hz
      obtain ⟨w, _, rfl⟩ := hz
      exact Nat.mod_lt _ hp)
    rwa [hl] at this
  rw [addF_comm hp, addF_zero hp hlt] at h
  exact h
section
variable {p e b c x : Nat} {m fs : List Nat} {g : Nat} {E : List Nat} {H : AH} {el : TypeId} {op : Option Nat} {r : Bool}
theorem rmulM (F : FM p e m g E fs) (hb : H[b]? = some (.cells (m.map nv) el op r)) {y : Nat} (hx : x < p ^ e) (hy : y < p ^ e) : FN Try.prog 107 [fldv p e b e c, nv x, nv y] H (fun v H' => v = nv (mulF p e m x y) ∧ H' = H) := by
  have hq := F.q
  have h := rmul_spec (c := c) hb F.len F.lt F.p2 F.e1 F.e6 F.q (show x < 1000 by omega) (show y < 1000 by omega)
  rwa [rmul_eq F.toFT F.rm x y hx hy] at h
theorem inv_uniq (F : FM p e m g E fs) {y : Nat} (hx : x < p ^ e) (h0 : x ≠ 0) (hy : y < p ^ e) (h : mulF p e m x y = 1) : y = pw p e m x (p ^ e - 2) := by
  have hI := F.mul_inv x hx h0
  have hlt := F.pw_lt x (p ^ e - 2)
  generalize pw p e m x (p ^ e - 2) = I at *
  have h1 : mulF p e m I (mulF p e m x y) = y := by
    rw [← F.mul_assoc _ _ _ hlt hx hy, F.mul_comm I x hlt hx, hI, F.one_mul y hy]
  rw [h, F.mul_one I hlt] at h1
  exact h1.symm
theorem powZ_inv (F : FM p e m g E fs) (hx : x < p ^ e) (h0 : x ≠ 0) : powZ p e m x (-1) = (pw p e m x (p ^ e - 2), 0) := by
  have := F.q2
  have h1 : ((-1 : Int) % ((p ^ e : Nat) - 1 : Int)).toNat = p ^ e - 2 := by
    rcases Nat.eq_or_lt_of_le this with h | h
    · rw [← h]; rfl
    · have : (-1 : Int) % ((p ^ e : Nat) - 1 : Int) = ((p ^ e : Nat) - 2 : Int) := by
        rw [← Int.add_mul_emod_self_left (-1) _ 1]
        rw [Int.emod_eq_of_lt (by omega) (by omega)]
        omega
      omega
  unfold powZ
  rw [if_neg (by omega), if_neg h0, h1, F.powF x _ hx]
theorem rinv_spec (F : FM p e m g E fs) (hb : H[b]? = some (.cells (m.map nv) el op r)) (hx : x < p ^ e) :
    FN Try.prog 141 [fldv p e b e c, nv x] H (fun v H' => v = .tuple [nv (powZ p e m x (-1)).1, nv (powZ p e m x (-1)).2].toArray ∧ H' = H) := by
  have hb2 := fun (Y : AH) => get_old (L := Y) hb
  have hq := F.q
  refine FN.gc0 (FN.of_compZ mixed xf141_ok (Nat.le_of_ble_eq_true rfl) ?_)
  by_cases h0 : x = 0
  · subst h0
    simp (disch := (first | omega | (simp only [List.length_map]; omega) | (simp only [stLen] <;> omega) | (simp only [all_nv]; done) | rfl)) only [↓stPre, zC, zD, zF, zG, zH, Nat.reduceEqDiff, Nat.reduceLT, Nat.reduceLeDiff, ↓reduceIte, xf141]
    simp [ground, scal, powZ]
  · rw [powZ_inv F hx h0]
    have hI := F.mul_inv x hx h0
    have hu := fun y hy => inv_uniq F (x := x) (y := y) hx h0 hy
    have hlt := F.pw_lt x (p ^ e - 2)
    have hne := F.pw_ne x (p ^ e - 2) hx h0
    generalize pw p e m x (p ^ e - 2) = I at *
    simp (disch := (first | omega | (simp only [List.length_map]; omega) | (simp only [stLen] <;> omega) | (simp only [all_nv]; done) | rfl)) only [↓stPre, zC, zD, zF, zG, zH, Nat.reduceEqDiff, Nat.reduceLT, Nat.reduceLeDiff, ↓reduceIte, xf141, h0]
    refine LZ.nat (I - 1) (fun k s H' => s.env 1 = nv x ∧ s.env 2 = .pointer (some ⟨H.length, 0, none⟩) ∧ s.env 6 = nv (k + 1) ∧ s.ds = [] ∧ H' = H ++ [.cells [nv p, nv e, .slice (some ⟨b, 0, none⟩) e c] 61 none false]) ?_ ?_ ?_
    · simp (disch := (first | omega | (simp only [List.length_map]; omega) | (simp only [stLen] <;> omega) | (simp only [all_nv]; done) | rfl)) only [↓stPre, zC, zD, zF, zG, zH, Nat.reduceEqDiff, Nat.reduceLT, Nat.reduceLeDiff, ↓reduceIte]
    · rintro k s H1 hk ⟨e1, e2, e6, eds, rfl⟩
      have hk1 : k + 1 < p ^ e := by omega
      have hn1 : ¬ mulF p e m x (k + 1) = 1 := fun h => by have := hu (k + 1) hk1 h; omega
      simp (disch := (first | omega | (simp only [List.length_map]; omega) | (simp only [stLen] <;> omega) | (simp only [all_nv]; done) | rfl)) only [↓stPre, zC, zD, zF, zG, zH, Nat.reduceEqDiff, Nat.reduceLT, Nat.reduceLeDiff, ↓reduceIte, e1, e2, e6, eds]
      refine FZ.use (rsize_spec F.p2 F.q) ?_
      simp (disch := (first | omega | (simp only [List.length_map]; omega) | (simp only [stLen] <;> omega) | (simp only [all_nv]; done) | rfl)) only [↓stPre, zC, zD, zF, zG, zH, Nat.reduceEqDiff, Nat.reduceLT, Nat.reduceLeDiff, ↓reduceIte, e1, e2, e6, eds, hk1]
      refine FZ.use (rmulM F (hb2 _) hx hk1) ?_
      simp (disch := (first | omega | (simp only [List.length_map]; omega) | (simp only [stLen] <;> omega) | (simp only [all_nv]; done) | rfl)) only [↓stPre, zC, zD, zF, zG, zH, Nat.reduceEqDiff, Nat.reduceLT, Nat.reduceLeDiff, ↓reduceIte, e1, e2, e6, eds, hn1]
    · rintro s H1 ⟨e1, e2, e6, eds, rfl⟩
      have hI1 : I - 1 + 1 = I := by omega
      rw [hI1] at e6
      simp (disch := (first | omega | (simp only [List.length_map]; omega) | (simp only [stLen] <;> omega) | (simp only [all_nv]; done) | rfl)) only [↓stPre, zC, zD, zF, zG, zH, Nat.reduceEqDiff, Nat.reduceLT, Nat.reduceLeDiff, ↓reduceIte, e1, e2, e6, eds]
      refine FZ.use (rsize_spec F.p2 F.q) ?_
      simp (disch := (first | omega | (simp only [List.length_map]; omega) | (simp only [stLen] <;> omega) | (simp only [all_nv]; done) | rfl)) only [↓stPre, zC, zD, zF, zG, zH, Nat.reduceEqDiff, Nat.reduceLT, Nat.reduceLeDiff, ↓reduceIte, e1, e2, e6, eds, hlt]
      refine FZ.use (rmulM F (hb2 _) hx hlt) ?_
      simp (disch := (first | omega | (simp only [List.length_map]; omega) | (simp only [stLen] <;> omega) | (simp only [all_nv]; done) | rfl)) only [↓stPre, zC, zD, zF, zG, zH, Nat.reduceEqDiff, Nat.reduceLT, Nat.reduceLeDiff, ↓reduceIte, e1, e2, e6, eds, hI, xf141]
      simp [ground, scal]
theorem rnegM (hp : 2 ≤ p) (he : 1 ≤ e) (he6 : e ≤ 6) (hq : p ^ e ≤ 64) {n : Nat} (hx : x < 1000) : FN Try.prog 142 [fldv p e b n c, nv x] H (fun v H' => v = nv (subF p e 0 x) ∧ H' = H) := by
  have h := rneg_spec (b := b) (n := n) (c := c) (H := H) hp he he6 hq hx
  rwa [neg_eq (by omega)] at h
end
end Go.Sim.Pf

namespace Go.Sim.Pf
open Go Go.Proofs
@[reducible] def flOf {p e g : Nat} {m E : List Nat} (F : FT p e m g E) : Fl {n : Nat // n < p ^ e} where
  zero := ⟨0, by have := F.q2; omega⟩
  one := ⟨1, by have := F.q2; omega⟩
  add a b := ⟨addF p e a.1 b.1, addF_lt F.hp⟩
  mul a b := ⟨mulF p e m a.1 b.1, F.mul_lt _ _⟩
  neg a := ⟨subF p e 0 a.1, subF_lt F.hp⟩
  inv a := ⟨pw p e m a.1 (p ^ e - 2), F.pw_lt _ _⟩
  add_comm a b := Subtype.ext (addF_comm F.hp _ _)
  add_assoc a b c := Subtype.ext (addF_assoc F.hp _ _ _)
  add_zero a := Subtype.ext (addF_zero F.hp a.2)
  add_neg a := Subtype.ext (add_negF F.hp)
  mul_comm a b := Subtype.ext (F.mul_comm _ _ a.2 b.2)
  mul_assoc a b c := Subtype.ext (F.mul_assoc _ _ _ a.2 b.2 c.2)
  mul_one a := Subtype.ext (F.mul_one _ a.2)
  mul_add a b c := Subtype.ext (mul_addF F.toFd _ _ _)
  mul_inv a h := Subtype.ext (F.mul_inv _ a.2 (fun h0 => h (Subtype.ext h0)))
  one_ne := fun h => by have := congrArg Subtype.val h; simp at this
theorem fokOf {p e g : Nat} {m E : List Nat} (F : FT p e m g E) (hr : rmB p e m = true) (hv : validB p e m = true) (hv2 : rvalidB p e m = true) (hc : ∀ E', E' < 4 → E' ≠ e → rvalidB p E' m = false) (b : Nat) :
    @FOK {n : Nat // n < p ^ e} (flOf F) (fun x => x.1) p e b e (p ^ e) (.cells (m.map nv) 3 (some 1) false) := by
  letI := flOf F
  have hq := F.q
  have hp64 : p ≤ 64 := by have := pow_le64 (k := 1) F.p2 F.e1 F.q; simpa using this
  have he6 := F.e6
  have lt : ∀ x : {n : Nat // n < p ^ e}, x.1 < 1000 := fun x => by have := x.2; omega
  have hsub : ∀ x y : {n : Nat // n < p ^ e}, subF p e x.1 y.1 = (Fl.add x (Fl.neg y)).1 := fun x y => by
    show _ = addF p e x.1 (subF p e 0 y.1)
    rw [← neg_eq F.hp, rsub_eq F.hp]
  have FMm : FM p e m g E [] := { toFT := F, rm := hr }
  constructor
  · intro x y h; exact Subtype.ext h
  · intro x; exact x.2
  · intro n hn; exact ⟨⟨n, hn⟩, rfl⟩
  · rfl
  · rfl
  · exact F.q
  · exact F.q2
  · intro H x y hb; exact mul_spec hb F.len F.lt F.p2 F.e1 F.e6 F.q (lt x) (lt y)
  · intro H x y hb; exact add_spec F.p2 F.e1 F.e6 rfl F.q (lt x) (lt y)
  · intro H x y hb; rw [← hsub]; exact sub_spec F.p2 F.e1 F.e6 rfl F.q (lt x) (lt y)
  · intro H x hb; exact neg_spec F.p2 F.e1 F.e6 rfl F.q (lt x)
  · intro H x hb h0
    have h0' : x.1 ≠ 0 := fun h => h0 (Subtype.ext h)
    have h := inv_spec (c := e) hb F.len F.lt F.p2 F.e1 F.e6 F.q (lt x)
    rw [powZ_inv FMm x.2 h0'] at h
    exact h
  · intro H hb; exact size_spec F.p2 F.e1 F.e6 rfl F.q
  · intro H hb
    have h := valid_spec (p := p) (e := e) (n := e) (c := e) hb F.len.symm (by omega) (by omega) (by omega)
    rw [hv] at h; exact h
  · intro H x y hb; exact rmulM FMm hb x.2 y.2
  · intro H x y hb; exact radd_spec F.p2 F.e1 F.e6 F.q (lt x) (lt y)
  · intro H x hb; exact rnegM F.p2 F.e1 F.e6 F.q (lt x)
  · intro H x hb h0
    have h0' : x.1 ≠ 0 := fun h => h0 (Subtype.ext h)
    have h := rinv_spec (c := e) FMm hb x.2
    rw [powZ_inv FMm x.2 h0'] at h
    exact h
  · intro H hb; exact rsize_spec F.p2 F.q
  · intro H hb
    have h := rvalid_spec (p := p) (e := e) (n := e) (c := e) hb F.len.symm (by omega) (by omega) (by omega)
    rw [hv2] at h; exact h
  · intro H E' hb h4 hne
    have h := valid_spec (p := p) (e := E') (n := e) (c := e) hb F.len.symm (by omega) (by omega) (by omega)
    have hf : validB p E' m = false := by unfold validB; rw [if_neg (by rw [F.len]; omega)]
    rw [hf] at h; exact h
  · intro H E' hb h4 hne
    have h := rvalid_spec (p := p) (e := E') (n := e) (c := e) hb F.len.symm (by omega) (by omega) (by omega)
    rw [hc E' h4 hne] at h; exact h
def fieldB (p e : Nat) (m : List Nat) : Bool := rmB p e m && validB p e m && rvalidB p e m && (List.range 4).all fun k => decide (k = e) || !rvalidB p k m
theorem fields_ok : (List.range 10).all (fun j => fieldB (fdT.getD j (2, 1, [0])).1 (fdT.getD j (2, 1, [0])).2.1 (fdT.getD j (2, 1, [0])).2.2 && Nat.ble (ordT.getD j 0) 16) = true := by decide +kernel
theorem field_at {j p e : Nat} {m : List Nat} (hj : j < 10) (h : fdT.getD j (2, 1, [0]) = (p, e, m)) : rmB p e m = true ∧ validB p e m = true ∧ rvalidB p e m = true ∧ (∀ k, k < 4 → k ≠ e → rvalidB p k m = false) ∧ ordT.getD j 0 ≤ 16 := by
  have := List.all_eq_true.1 fields_ok j (List.mem_range.2 hj)
  rw [h] at this
  simp only [fieldB, Bool.and_eq_true] at this
  obtain ⟨⟨⟨⟨h1, h2⟩, h3⟩, h4⟩, h5⟩ := this
  refine ⟨h1, h2, h3, fun k hk hne => ?_, Nat.le_of_ble_eq_true h5⟩
  have := List.all_eq_true.1 h4 k (List.mem_range.2 hk)
  simpa [hne] using this
theorem fldOK : FldOK := by
  intro H k hk
  refine g67_of ?_
  unfold g67
  obtain ⟨p, e, m, g, E, ht, F, hq, hm⟩ := make_at (k % 10) (by omega)
  obtain ⟨f1, f2, f3, f4, f5⟩ := field_at (Nat.mod_lt _ (by omega)) ht
  have hp1 := Pre.new H [.cells [nv 0, nv 0, .slice none 0 0] 61 none false]
  have w0 : IntKind.i64.wrap (k : Int) = (k : Int) := wrap64 (by omega) (by omega)
  simp (disch := omega) only [zA, zB, zC, zD, zF, zG, zH, ↓reduceIte]
  refine FZ.known (kSizes0_ok _ (List.mem_of_getElem? (i := 0) rfl)) ?_
  have hl : [nv 2, nv 3, nv 4, nv 5, nv 7, nv 8, nv 9, nv 11, nv 13, nv 16] = (ordT.take 10).map nv := rfl
  have hlen : (ordT.take 10).length = 10 := rfl
  have hk10 : k % 10 < 10 := Nat.mod_lt _ (by omega)
  have hget : (ordT.take 10).getD (k % 10) 0 = ordT.getD (k % 10) 0 := by rw [List.getD_eq_getElem?_getD, List.getElem?_take_of_lt hk10, ← List.getD_eq_getElem?_getD]
  simp (disch := omega) only [zA, zB, zC, zD, zF, zG, zH, ↓reduceIte, KRes.mk, KRes.hp, w0]
  rw [hl]
  simp (disch := omega) only [zA, zB, zC, zD, zF, zG, zH, ↓reduceIte, hlen, hk10, hget, w0]
  refine FZ.known hm ?_
  simp (disch := omega) only [zA, zB, zC, zD, zF, zG, zH, ↓reduceIte, KRes.mk, KRes.hp]
  rw [stB_three rfl rfl rfl]
  simp (disch := omega) only [zA, zB, zC, zD, zF, zG, zH, ↓reduceIte, KRes.mk, KRes.hp]
  rw [stB_three rfl rfl rfl]
  simp (disch := omega) only [zA, zB, zC, zD, zF, zG, zH, ↓reduceIte, KRes.mk, KRes.hp]
  refine ⟨Pre.new _ _, {n : Nat // n < p ^ e}, flOf F, inferInstance, fun x => x.1, p, e, H.length + (1 + 1), e, p ^ e, .cells (m.map nv) 3 (some 1) false, by simp, fokOf F f1 f2 f3 f4 _, by omega, rfl, by omega⟩
end Go.Sim.Pf

set_option maxRecDepth 100000
namespace Go.Sim
open Go Go.Proofs
def xf29 : XF := ⟨148, [(.tmp 0)], (.seq (.reg [eS 0 0 .mov [(.const (.bool false))]]) (.seq (.reg [eS 0 7 .call [(.func 67), (.const (.int .u8 0))], eS 1 1 (.new [(nv 0), (nv 0), (.slice none 0 0)] 61) [], eN 2 (.st 3) [pT 1, pT 7]]) (.seq (.reg [eS 0 8 .call [(.func 67), (.const (.int .u8 1))], eS 1 2 (.new [(nv 0), (nv 0), (.slice none 0 0)] 61) [], eN 2 (.st 3) [pT 2, pT 8]]) (.seq (.reg [eS 0 9 (.ld (some 3)) [pT 1], eS 1 10 (.bsl [(nv 0), (nv 0), (nv 0)] 3 [(0, 1), (1, 1), (2, 1)] 3) [pC (nv 1), pC (nv 1), pC (nv 0)], eS 2 11 (.bsl [(nv 0), (nv 0), (nv 0)] 3 [(0, 1), (1, 1), (2, 1)] 3) [pC (nv 0), pC (nv 1), pC (nv 1)], eS 3 12 (.bsl [(nv 0), (nv 0), (nv 0)] 3 [(0, 1), (1, 1), (2, 1)] 3) [pC (nv 1), pC (nv 0), pC (nv 1)], eS 4 13 (.bsl [(.slice none 0 0), (.slice none 0 0), (.slice none 0 0)] 3 [(0, 1), (1, 1), (2, 1)] 26) [pT 10, pT 11, pT 12], eS 5 14 (.bld [(nv 0), (nv 0), (.slice none 0 0), (nv 0), (.slice none 0 0)] [(0, 3), (3, 1), (4, 1)]) [pT 9, pC (nv 3), pT 13], eS 6 3 (.new [(nv 0), (nv 0), (.slice none 0 0), (nv 0), (.slice none 0 0)] 63) [], eN 7 (.st 5) [pT 3, pT 14]]) (.seq (.seq (.reg [eS 0 15 (.ld (some 3)) [pT 1], eS 1 16 (.fld 4) [pT 3], eS 2 17 (.ld none) [pT 16], eS 3 18 .call [(.func 35), pT 15, pT 17], eS 4 19 (.bsl [(nv 0), (nv 0), (nv 0)] 3 [(0, 1), (1, 1), (2, 1)] 3) [pC (nv 1), pC (nv 0), pC (nv 1)], eS 5 20 (.bsl [(nv 0), (nv 0), (nv 0)] 3 [(0, 1), (1, 1), (2, 1)] 3) [pC (nv 0), pC (nv 1), pC (nv 1)], eS 6 21 (.bsl [(.slice none 0 0), (.slice none 0 0)] 2 [(0, 1), (1, 1)] 26) [pT 19, pT 20], eS 7 22 .call [(.func 34), pT 18, pT 21], eS 8 23 (.un .not) [pT 22], eS 9 24 .mov [pT 23], ⟨(some (24, false)), (.ld (some 3)), [pT 1], (some 25), 10, false, []⟩, ⟨(some (24, false)), (.fld 4), [pT 3], (some 26), 11, false, []⟩, ⟨(some (24, false)), (.ld none), [pT 26], (some 27), 12, false, []⟩, ⟨(some (24, false)), .call, [(.func 37), pT 25, pT 27], (some 28), 13, false, []⟩, ⟨(some (24, false)), (.bin .neq 0), [pT 28, pC (nv 2)], (some 29), 14, false, []⟩, eS 15 30 .pick [pT 24, (.const (.bool true)), pT 29], eS 16 31 .mov [pT 30], ⟨(some (31, false)), (.ld (some 3)), [pT 1], (some 32), 17, false, []⟩, ⟨(some (31, false)), (.fld 4), [pT 3], (some 33), 18, false, []⟩, ⟨(some (31, false)), (.ld none), [pT 33], (some 34), 19, false, []⟩, ⟨(some (31, false)), .call, [(.func 38), pT 32, pC (nv 3), pT 34], (some 35), 20, false, []⟩, ⟨(some (31, false)), (.bsl [(nv 0), (nv 0), (nv 0)] 3 [(0, 1), (1, 1), (2, 1)] 3), [pC (nv 1), pC (nv 1), pC (nv 1)], (some 36), 21, false, []⟩, ⟨(some (31, false)), (.bsl [(.slice none 0 0)] 1 [(0, 1)] 26), [pT 36], (some 37), 22, false, []⟩, ⟨(some (31, false)), .call, [(.func 34), pT 35, pT 37], (some 38), 23, false, []⟩, ⟨(some (31, false)), (.un .not), [pT 38], (some 39), 24, false, []⟩, eS 25 40 .pick [pT 31, (.const (.bool true)), pT 39]]) (.cond (.tmp 40) (.seq (.reg [eS 0 0 .mov [(.const (.bool false))]]) .ret) .skip)) (.seq (.seq (.reg [eS 0 41 (.ld (some 5)) [pT 3], eS 1 42 (.bsl [(nv 0), (nv 0), (nv 0)] 3 [(0, 1), (1, 1), (2, 1)] 3) [pC (nv 1), pC (nv 0), pC (nv 1)], eS 2 43 .call [(.func 44), pT 41, pT 42], eS 3 44 (.bsl [(nv 0), (nv 0), (nv 0)] 3 [(0, 1), (1, 1), (2, 1)] 3) [pC (nv 1), pC (nv 0), pC (nv 0)], eS 4 45 (.bld [(.slice none 0 0), (nv 0)] [(0, 1)]) [pT 44], eS 5 46 .call [(.func 43), pT 43, pT 45], eS 6 47 (.un .not) [pT 46], eS 7 48 .mov [pT 47], ⟨(some (48, false)), (.ld (some 5)), [pT 3], (some 49), 8, false, []⟩, ⟨(some (48, false)), (.bsl [(nv 0), (nv 0), (nv 0)] 3 [(0, 1), (1, 1), (2, 1)] 3), [pC (nv 1), pC (nv 0), pC (nv 0)], (some 50), 9, false, []⟩, ⟨(some (48, false)), .call, [(.func 44), pT 49, pT 50], (some 51), 10, false, []⟩, ⟨(some (48, false)), (.bld [(.slice none 0 0), (nv 0)] [(1, 1)]), [pC (nv 4)], (some 52), 11, false, []⟩, ⟨(some (48, false)), .call, [(.func 43), pT 51, pT 52], (some 53), 12, false, []⟩, ⟨(some (48, false)), (.un .not), [pT 53], (some 54), 13, false, []⟩, eS 14 55 .pick [pT 48, (.const (.bool true)), pT 54], eS 15 56 .mov [pT 55], ⟨(some (56, false)), (.ld (some 3)), [pT 1], (some 57), 16, false, []⟩, ⟨(some (56, false)), (.fld 4), [pT 3], (some 58), 17, false, []⟩, ⟨(some (56, false)), (.ld none), [pT 58], (some 59), 18, false, []⟩, ⟨(some (56, false)), (.bsl [(nv 0), (nv 0), (nv 0)] 3 [(0, 1), (1, 1), (2, 1)] 3), [pC (nv 1), pC (nv 0), pC (nv 0)], (some 60), 19, false, []⟩, ⟨(some (56, false)), .call, [(.func 41), pT 57, pT 59, pT 60], (some 61), 20, false, []⟩, ⟨(some (56, false)), (.bsl [(nv 0), (nv 0), (nv 0)] 3 [(0, 1), (1, 1), (2, 1)] 3), [pC (nv 1), pC (nv 0), pC (nv 1)], (some 62), 21, false, []⟩, ⟨(some (56, false)), .call, [(.func 40), pT 61, pT 62], (some 63), 22, false, []⟩, ⟨(some (56, false)), (.un .not), [pT 63], (some 64), 23, false, []⟩, eS 24 65 .pick [pT 56, (.const (.bool true)), pT 64]]) (.cond (.tmp 65) (.seq (.reg [eS 0 0 .mov [(.const (.bool false))]]) .ret) .skip)) (.seq (.reg [eS 0 66 (.ld (some 3)) [pT 2], eS 1 67 (.bsl [(nv 0), (nv 0)] 2 [(0, 1), (1, 1)] 3) [pC (nv 1), pC (nv 1)], eS 2 68 (.bsl [(nv 0), (nv 0)] 2 [(0, 1), (1, 1)] 3) [pC (nv 1), pC (nv 2)], eS 3 69 (.bsl [(.slice none 0 0), (.slice none 0 0)] 2 [(0, 1), (1, 1)] 26) [pT 67, pT 68], eS 4 70 .call [(.func 53), pT 66, pT 69], eS 5 4 (.new [(.slice none 0 0), (nv 0)] 83) [], eN 6 (.st 2) [pT 4, pT 70]]) (.seq (.seq (.reg [eS 0 71 (.fld 1) [pT 4], eS 1 72 (.ld none) [pT 71], eS 2 73 (.bin .neq 0) [pT 72, pC (nv 0)], eS 3 74 .mov [pT 73], ⟨(some (74, false)), (.fld 0), [pT 4], (some 75), 4, false, []⟩, ⟨(some (74, false)), (.ld none), [pT 75], (some 76), 5, false, []⟩, ⟨(some (74, false)), (.bsl [(nv 0), (nv 0)] 2 [(0, 1), (1, 1)] 3), [pC (nv 2), pC (nv 2)], (some 77), 6, false, []⟩, ⟨(some (74, false)), (.bsl [(nv 0), (nv 0)] 2 [(0, 1), (1, 1)] 3), [pC (nv 2), pC (nv 1)], (some 78), 7, false, []⟩, ⟨(some (74, false)), (.bsl [(.slice none 0 0), (.slice none 0 0)] 2 [(0, 1), (1, 1)] 26), [pT 77, pT 78], (some 79), 8, false, []⟩, ⟨(some (74, false)), .call, [(.func 34), pT 76, pT 79], (some 80), 9, false, []⟩, ⟨(some (74, false)), (.un .not), [pT 80], (some 81), 10, false, []⟩, eS 11 82 .pick [pT 74, (.const (.bool true)), pT 81], eS 12 83 .mov [pT 82], ⟨(some (83, false)), (.ld (some 3)), [pT 2], (some 84), 13, false, []⟩, ⟨(some (83, false)), (.bsl [(nv 0), (nv 0)] 2 [(0, 1), (1, 1)] 3), [pC (nv 1), pC (nv 2)], (some 85), 14, false, []⟩, ⟨(some (83, false)), (.bsl [(nv 0), (nv 0)] 2 [(0, 1), (1, 1)] 3), [pC (nv 2), pC (nv 1)], (some 86), 15, false, []⟩, ⟨(some (83, false)), (.bsl [(.slice none 0 0), (.slice none 0 0)] 2 [(0, 1), (1, 1)] 26), [pT 85, pT 86], (some 87), 16, false, []⟩, ⟨(some (83, false)), .call, [(.func 53), pT 84, pT 87], (some 88), 17, false, []⟩, ⟨(some (83, false)), (.prt none 1), [pT 88], (some 89), 18, false, []⟩, ⟨(some (83, false)), (.bin .neq 0), [pT 89, pC (nv 4)], (some 90), 19, false, []⟩, eS 20 91 .pick [pT 83, (.const (.bool true)), pT 90]]) (.cond (.tmp 91) (.seq (.reg [eS 0 0 .mov [(.const (.bool false))]]) .ret) .skip)) (.seq (.reg [eS 0 92 (.bsl [(nv 0), (nv 0), (nv 0)] 3 [(0, 1), (1, 1), (2, 1)] 3) [pC (nv 1), pC (nv 0), pC (nv 0)], eS 1 93 (.bsl [(nv 0), (nv 0), (nv 0)] 3 [(0, 1), (1, 1), (2, 1)] 3) [pC (nv 0), pC (nv 1), pC (nv 0)], eS 2 94 (.bsl [(.slice none 0 0), (.slice none 0 0)] 2 [(0, 1), (1, 1)] 26) [pT 92, pT 93], eS 3 5 .mov [pT 94]]) (.seq (.reg [eS 0 95 (.bsl [(nv 0), (nv 0), (nv 0)] 3 [(0, 1), (1, 1), (2, 1)] 3) [pC (nv 0), pC (nv 1), pC (nv 1)], eS 1 96 (.bsl [(nv 0), (nv 0), (nv 0)] 3 [(0, 1), (1, 1), (2, 1)] 3) [pC (nv 0), pC (nv 0), pC (nv 1)], eS 2 97 (.bsl [(.slice none 0 0), (.slice none 0 0)] 2 [(0, 1), (1, 1)] 26) [pT 95, pT 96], eS 3 6 .mov [pT 97]]) (.seq (.seq (.reg [eS 0 98 (.ld (some 3)) [pT 2], eS 1 99 .mov [pT 5], eS 2 100 .mov [pT 6], eS 3 101 .call [(.func 50), pT 98, pC (nv 3), pT 99, pT 100], eS 4 102 (.bsl [(nv 0), (nv 0), (nv 0)] 3 [(0, 1), (1, 1), (2, 1)] 3) [pC (nv 0), pC (nv 1), pC (nv 0)], eS 5 103 (.bsl [(.slice none 0 0)] 1 [(0, 1)] 26) [pT 102], eS 6 104 .call [(.func 34), pT 101, pT 103], eS 7 105 (.un .not) [pT 104], eS 8 106 .mov [pT 105], ⟨(some (106, false)), (.ld (some 3)), [pT 2], (some 107), 9, false, []⟩, ⟨(some (106, false)), .mov, [pT 5], (some 108), 10, false, []⟩, ⟨(some (106, false)), .mov, [pT 6], (some 109), 11, false, []⟩, ⟨(some (106, false)), .call, [(.func 48), pT 107, pT 108, pT 109], (some 110), 12, false, []⟩, ⟨(some (106, false)), .lenS, [pT 110], (some 111), 13, false, []⟩, ⟨(some (106, false)), (.bin .neq 0), [pT 111, pC (nv 3)], (some 112), 14, false, []⟩, eS 15 113 .pick [pT 106, (.const (.bool true)), pT 112], eS 16 114 .mov [pT 113], ⟨(some (114, false)), (.ld (some 3)), [pT 2], (some 115), 17, false, []⟩, ⟨(some (114, false)), .mov, [pT 5], (some 116), 18, false, []⟩, ⟨(some (114, false)), (.bsl [(nv 0), (nv 0), (nv 0)] 3 [(0, 1), (1, 1), (2, 1)] 3), [pC (nv 2), pC (nv 1), pC (nv 0)], (some 117), 19, false, []⟩, ⟨(some (114, false)), .call, [(.func 46), pT 115, pT 116, pT 117], (some 118), 20, false, []⟩, ⟨(some (114, false)), (.un .not), [pT 118], (some 119), 21, false, []⟩, eS 22 120 .pick [pT 114, (.const (.bool true)), pT 119], eS 23 121 .mov [pT 120], ⟨(some (121, false)), (.ld (some 3)), [pT 2], (some 122), 24, false, []⟩, ⟨(some (121, false)), .mov, [pT 5], (some 123), 25, false, []⟩, ⟨(some (121, false)), (.bsl [(nv 0), (nv 0), (nv 0)] 3 [(0, 1), (1, 1), (2, 1)] 3), [pC (nv 0), pC (nv 0), pC (nv 1)], (some 124), 26, false, []⟩, ⟨(some (121, false)), .call, [(.func 46), pT 122, pT 123, pT 124], (some 125), 27, false, []⟩, eS 28 126 .pick [pT 121, (.const (.bool true)), pT 125]]) (.cond (.tmp 126) (.seq (.reg [eS 0 0 .mov [(.const (.bool false))]]) .ret) .skip)) (.seq (.reg [eS 0 127 (.ld (some 3)) [pT 2], eS 1 128 .mov [pT 5], eS 2 129 .call [(.func 33), pT 127, pC (nv 3), pT 128], eS 3 130 .mov [pT 129], ⟨(some (130, true)), (.ld (some 3)), [pT 1], (some 131), 4, false, []⟩, ⟨(some (130, true)), (.bsl [(nv 0), (nv 0), (nv 0)] 3 [(0, 1), (1, 1), (2, 1)] 3), [pC (nv 2), pC (nv 0), pC (nv 0)], (some 132), 5, false, []⟩, ⟨(some (130, true)), (.bsl [(.slice none 0 0)] 1 [(0, 1)] 26), [pT 132], (some 133), 6, false, []⟩, ⟨(some (130, true)), .call, [(.func 33), pT 131, pC (nv 3), pT 133], (some 134), 7, false, []⟩, ⟨(some (130, true)), (.un .not), [pT 134], (some 135), 8, false, []⟩, eS 9 136 .pick [pT 130, pT 135, (.const (.bool false))], eS 10 137 .mov [pT 136], ⟨(some (137, true)), (.ld (some 3)), [pT 1], (some 138), 11, false, []⟩, ⟨(some (137, true)), .call, [(.func 33), pT 138, pC (nv 0), (.const (.slice none 0 0))], (some 139), 12, false, []⟩, ⟨(some (137, true)), (.un .not), [pT 139], (some 140), 13, false, []⟩, eS 14 141 .pick [pT 137, pT 140, (.const (.bool false))], eS 15 142 .mov [pT 141], ⟨(some (142, true)), (.ld (some 3)), [pT 1], (some 143), 16, false, []⟩, ⟨(some (142, true)), .call, [(.func 38), pT 143, pC (nv 2), (.const (.slice none 0 0))], (some 144), 17, false, []⟩, ⟨(some (142, true)), .lenS, [pT 144], (some 145), 18, false, []⟩, ⟨(some (142, true)), (.bin .eql 0), [pT 145, pC (nv 2)], (some 146), 19, false, []⟩, eS 20 147 .pick [pT 142, pT 146, (.const (.bool false))], eS 21 0 .mov [pT 147]]) .ret))))))))))))⟩
theorem xf29_ok : compF Try.prog 29 = some xf29 := by kernel_rfl
end Go.Sim
