/- Part of the proof: RefA. -/
import Derived.Test.YtaepmmdbhikjlaaFieldW0ToMatB
set_option linter.unusedSimpArgs false
namespace Go.Sim
open Go Go.Proofs

/-- A field of which a part is another one. -/
def chg (p e : Nat) (m : List Nat) (r : Nat) : Nat × Nat × List Nat :=
  if r = 0 then (p + 1, e, m) else if r = 1 then (p, e + 1, m) else if r = 2 then (p, e, m.set 0 ((m.getD 0 0 + 1) % p)) else if r = 3 then (p, e, m ++ [0]) else (p, e, m)

theorem changed_spec {p e b c k : Nat} {m : List Nat} {H : AH} {el : TypeId} {op : Option Nat} {r : Bool} (hb : H[b]? = some (.cells (m.map nv) el op r)) (hm : m.length = e) (hmp : ∀ z ∈ m, z < p) (hp : 2 ≤ p) (hp2 : p ≤ 64) (he : 1 ≤ e) (he6 : e ≤ 6) (hk : k < 256) :
    FN Try.prog 16 [fldv p e b e c, nv k] H (fun v H' => v = fldv (chg p e m (k % 5)).1 (chg p e m (k % 5)).2.1 H.length (chg p e m (k % 5)).2.2.length (chg p e m (k % 5)).2.2.length ∧ H' = H ++ [.cells ((chg p e m (k % 5)).2.2.map nv) 3 (some 1) false]) := by
  have hb2 := fun (Y : AH) => get_old (L := Y) hb
  generalize hC : chg p e m (k % 5) = C
  obtain ⟨p', e', m'⟩ := C
  refine FN.mono (FN.gc1 (R := fun v x => v = fldv p' e' H.length m'.length m'.length ∧ x = .cells (m'.map nv) 3 (some 1) false) (FN.of_compZ mixed xf16_ok (Nat.le_of_ble_eq_true rfl) ?_)) ?_
  · simp (disch := (first | omega | (simp only [List.length_map]; omega) | (simp only [List.length_map, List.length_set, List.length_replicate, List.length_append, List.length_cons, List.length_nil] <;> omega) | (simp only [all_nv]; done) | rfl)) only [↓stPre, stOwn, stNat, stList, stProp, Nat.reduceEqDiff, Nat.reduceLT, Nat.reduceLeDiff, ↓reduceIte, eq_self, true_implies, false_implies, ite_true, ite_false, if_true, if_false, ne_eq, xf16, xfill, putL]
    rw [app_none (n := 0) (m := e) (c2 := c) (bytes := 8) (e := 3) (l := []) (l2 := m) (get_new.trans rfl) rfl (hb2 _) (by rw [List.drop_zero, List.take_of_length_le (by simp; omega)]) hm.symm (by omega) (by simp; omega) (by omega) (by omega)]
    simp (disch := (first | omega | (simp only [List.length_map]; omega) | (simp only [List.length_map, List.length_set, List.length_replicate, List.length_append, List.length_cons, List.length_nil] <;> omega) | (simp only [all_nv]; done) | rfl)) only [↓stPre, stOwn, stNat, stList, stProp, Nat.reduceEqDiff, Nat.reduceLT, Nat.reduceLeDiff, ↓reduceIte, eq_self, true_implies, false_implies, ite_true, ite_false, if_true, if_false, ne_eq, xf16, xfill, putL]
    have h5 : k % 5 < 5 := Nat.mod_lt _ (by omega)
    by_cases r0 : k % 5 = 0
    · rw [r0] at hC
      cases hC
      simp (disch := (first | omega | (simp only [List.length_map]; omega) | (simp only [List.length_map, List.length_set, List.length_replicate, List.length_append, List.length_cons, List.length_nil] <;> omega) | (simp only [all_nv]; done) | rfl)) only [↓stPre, stOwn, stNat, stList, stProp, Nat.reduceEqDiff, Nat.reduceLT, Nat.reduceLeDiff, ↓reduceIte, eq_self, true_implies, false_implies, ite_true, ite_false, if_true, if_false, ne_eq, r0, xf16, xfill, putL, stB_fld, Nat.reduceAdd]
      simp only [hm, List.length_set, List.length_append, List.length_cons, List.length_nil, Nat.zero_add]
      exact ⟨_, 3, _, _, rfl, rfl, fun σ _ h => ⟨VRs.aggL (.cons (.int _ _) (.cons (.int _ _) (.cons (hat_slice h) .nil))), AR_nv⟩, rfl, rfl⟩
    by_cases r1 : k % 5 = 1
    · rw [r1] at hC
      cases hC
      simp (disch := (first | omega | (simp only [List.length_map]; omega) | (simp only [List.length_map, List.length_set, List.length_replicate, List.length_append, List.length_cons, List.length_nil] <;> omega) | (simp only [all_nv]; done) | rfl)) only [↓stPre, stOwn, stNat, stList, stProp, Nat.reduceEqDiff, Nat.reduceLT, Nat.reduceLeDiff, ↓reduceIte, eq_self, true_implies, false_implies, ite_true, ite_false, if_true, if_false, ne_eq, r0, r1, xf16, xfill, putL, stB_fld, Nat.reduceAdd]
      simp only [hm, List.length_set, List.length_append, List.length_cons, List.length_nil, Nat.zero_add]
      exact ⟨_, 3, _, _, rfl, rfl, fun σ _ h => ⟨VRs.aggL (.cons (.int _ _) (.cons (.int _ _) (.cons (hat_slice h) .nil))), AR_nv⟩, rfl, rfl⟩
    by_cases r2 : k % 5 = 2
    · rw [r2] at hC
      cases hC
      have g0 := getD_lt (k := 0) (by omega) hmp
      simp (disch := (first | omega | (simp only [List.length_map]; omega) | (simp only [List.length_map, List.length_set, List.length_replicate, List.length_append, List.length_cons, List.length_nil] <;> omega) | (simp only [all_nv]; done) | rfl)) only [↓stPre, stOwn, stNat, stList, stProp, Nat.reduceEqDiff, Nat.reduceLT, Nat.reduceLeDiff, ↓reduceIte, eq_self, true_implies, false_implies, ite_true, ite_false, if_true, if_false, ne_eq, r0, r1, r2, xf16, xfill, putL, stB_fld, Nat.reduceAdd]
      simp only [hm, List.length_set, List.length_append, List.length_cons, List.length_nil, Nat.zero_add]
      exact ⟨_, 3, _, _, rfl, rfl, fun σ _ h => ⟨VRs.aggL (.cons (.int _ _) (.cons (.int _ _) (.cons (hat_slice h) .nil))), AR_nv⟩, rfl, rfl⟩
    by_cases r3 : k % 5 = 3
    · rw [r3] at hC
      cases hC
      simp (disch := (first | omega | (simp only [List.length_map]; omega) | (simp only [List.length_map, List.length_set, List.length_replicate, List.length_append, List.length_cons, List.length_nil] <;> omega) | (simp only [all_nv]; done) | rfl)) only [↓stPre, stOwn, stNat, stList, stProp, Nat.reduceEqDiff, Nat.reduceLT, Nat.reduceLeDiff, ↓reduceIte, eq_self, true_implies, false_implies, ite_true, ite_false, if_true, if_false, ne_eq, r0, r1, r2, r3, xf16, xfill, putL, stB_fld, Nat.reduceAdd]
      rw [app_open (n := e) (m := 1) (c2 := 1) (bytes := 8) (e := 3) (l := m) (l2 := [0]) (get_new.trans rfl) hm.symm (get_new.trans rfl) rfl rfl (by omega) (by simp) (by omega) (by omega)]
      simp (disch := (first | omega | (simp only [List.length_map]; omega) | (simp only [List.length_map, List.length_set, List.length_replicate, List.length_append, List.length_cons, List.length_nil] <;> omega) | (simp only [all_nv]; done) | rfl)) only [↓stPre, stOwn, stNat, stList, stProp, Nat.reduceEqDiff, Nat.reduceLT, Nat.reduceLeDiff, ↓reduceIte, eq_self, true_implies, false_implies, ite_true, ite_false, if_true, if_false, ne_eq, r0, r1, r2, r3, xf16, xfill, putL, stB_fld, Nat.reduceAdd]
      simp only [hm, List.length_set, List.length_append, List.length_cons, List.length_nil, Nat.zero_add]
      exact ⟨_, 5, _, _, rfl, rfl, fun σ _ h => ⟨VRs.aggL (.cons (.int _ _) (.cons (.int _ _) (.cons (hat_slice h) .nil))), AR_nv⟩, rfl, rfl⟩
    · have r4 : k % 5 = 4 := by omega
      rw [r4] at hC
      cases hC
      simp (disch := (first | omega | (simp only [List.length_map]; omega) | (simp only [List.length_map, List.length_set, List.length_replicate, List.length_append, List.length_cons, List.length_nil] <;> omega) | (simp only [all_nv]; done) | rfl)) only [↓stPre, stOwn, stNat, stList, stProp, Nat.reduceEqDiff, Nat.reduceLT, Nat.reduceLeDiff, ↓reduceIte, eq_self, true_implies, false_implies, ite_true, ite_false, if_true, if_false, ne_eq, r0, r1, r2, r3, xf16, xfill, putL, stB_fld, Nat.reduceAdd]
      simp only [hm, List.length_set, List.length_append, List.length_cons, List.length_nil, Nat.zero_add]
      exact ⟨_, 3, _, _, rfl, rfl, fun σ _ h => ⟨VRs.aggL (.cons (.int _ _) (.cons (.int _ _) (.cons (hat_slice h) .nil))), AR_nv⟩, rfl, rfl⟩
  · rintro v H' ⟨x, rfl, rfl, rfl⟩
    exact ⟨rfl, rfl⟩
end Go.Sim
