/- Part of the proof: FieldW0, FrobA, MatB. -/
import Derived.Test.YtaepmmdbhikjlaaFieldQToFieldV
import Derived.Test.YtaepmmdbhikjlaaFieldX
import Derived.Test.YtaepmmdbhikjlaaMatA
import Derived.Test.YtaepmmdbhikjlaaPowC
set_option linter.unusedSimpArgs false
namespace Go.Sim
open Go Go.Proofs

theorem stB_fld {H : AH} {x y z : Value} {el : TypeId} {op : Option Nat} {bl p e b n c : Nat} : stB 3 H (some (.cells [x, y, z] el op false)) bl 0 (fldv p e b n c) = some (undef, H.set bl (.cells [nv p, nv e, .slice (some ⟨b, 0, none⟩) n c] el op false)) :=
  stB_all (n := 3) (c := [x, y, z]) (c' := [nv p, nv e, .slice (some ⟨b, 0, none⟩) n c]) rfl rfl rfl
theorem rpow_spec {p e : Nat} {H : AH} (hp : 2 ≤ p) (hq : p ^ e ≤ 64) : FN Try.prog 52 [nv p, nv e] H (fun v H' => v = nv (p ^ e) ∧ H' = H) := by
  have he : e < 64 := by
    have h1 : e < 2 ^ e := Nat.lt_two_pow_self
    have h2 : 2 ^ e ≤ p ^ e := Nat.pow_le_pow_left hp e
    omega
  refine FN.gc0 (FN.of_compZ mixed xf52_ok (Nat.le_of_ble_eq_true rfl) ?_)
  simp (disch := (first | omega | (simp only [List.length_map]; omega) | (simp only [List.length_map, List.length_set, List.length_replicate, List.length_append, List.length_cons, List.length_nil] <;> omega) | (simp only [all_nv]; done) | rfl)) only [↓stPre, stOwn, stNat, stList, stProp, Nat.reduceEqDiff, Nat.reduceLT, Nat.reduceLeDiff, ↓reduceIte, eq_self, true_implies, false_implies, ite_true, ite_false, if_true, if_false, ne_eq, xf52]
  refine LZ.nat e (fun k s H' => s.env 0 = nv p ∧ s.env 1 = nv e ∧ s.env 5 = nv (p ^ k) ∧ s.env 6 = nv k ∧ s.ds = [] ∧ H' = H) ?_ ?_ ?_
  · simp (disch := (first | omega | (simp only [List.length_map]; omega) | (simp only [List.length_map, List.length_set, List.length_replicate, List.length_append, List.length_cons, List.length_nil] <;> omega) | (simp only [all_nv]; done) | rfl)) only [↓stPre, stOwn, stNat, stList, stProp, Nat.reduceEqDiff, Nat.reduceLT, Nat.reduceLeDiff, ↓reduceIte, eq_self, true_implies, false_implies, ite_true, ite_false, if_true, if_false, ne_eq]
    simp
  · rintro k s H1 hk ⟨e0, e1, e5, e6, eds, rfl⟩
    have h1 := pow_le64 (k := k) hp (by omega) hq
    have h2 := pow_le64 (k := k + 1) hp (by omega) hq
    rw [Nat.pow_succ] at h2
    simp (disch := (first | omega | (simp only [List.length_map]; omega) | (simp only [List.length_map, List.length_set, List.length_replicate, List.length_append, List.length_cons, List.length_nil] <;> omega) | (simp only [all_nv]; done) | rfl)) only [↓stPre, stOwn, stNat, stList, stProp, Nat.reduceEqDiff, Nat.reduceLT, Nat.reduceLeDiff, ↓reduceIte, eq_self, true_implies, false_implies, ite_true, ite_false, if_true, if_false, ne_eq, e0, e1, e5, e6, eds, hk]
    simp [Nat.pow_succ]
  · rintro s H1 ⟨e0, e1, e5, e6, eds, rfl⟩
    simp (disch := (first | omega | (simp only [List.length_map]; omega) | (simp only [List.length_map, List.length_set, List.length_replicate, List.length_append, List.length_cons, List.length_nil] <;> omega) | (simp only [all_nv]; done) | rfl)) only [↓stPre, stOwn, stNat, stList, stProp, Nat.reduceEqDiff, Nat.reduceLT, Nat.reduceLeDiff, ↓reduceIte, eq_self, true_implies, false_implies, ite_true, ite_false, if_true, if_false, ne_eq, e0, e1, e5, e6, eds, xf52]
    simp [ground, scal]
theorem rsize_spec {p e b n c : Nat} {H : AH} (hp : 2 ≤ p) (hq : p ^ e ≤ 64) : FN Try.prog 15 [fldv p e b n c] H (fun v H' => v = nv (p ^ e) ∧ H' = H) := by
  refine FN.gc0 (FN.of_compZ mixed xf15_ok (Nat.le_of_ble_eq_true rfl) ?_)
  simp (disch := (first | omega | (simp only [List.length_map]; omega) | (simp only [List.length_map, List.length_set, List.length_replicate, List.length_append, List.length_cons, List.length_nil] <;> omega) | (simp only [all_nv]; done) | rfl)) only [↓stPre, stOwn, stNat, stList, stProp, Nat.reduceEqDiff, Nat.reduceLT, Nat.reduceLeDiff, ↓reduceIte, eq_self, true_implies, false_implies, ite_true, ite_false, if_true, if_false, ne_eq, xf15]
  refine FZ.use (rpow_spec hp hq) ?_
  simp (disch := (first | omega | (simp only [List.length_map]; omega) | (simp only [List.length_map, List.length_set, List.length_replicate, List.length_append, List.length_cons, List.length_nil] <;> omega) | (simp only [all_nv]; done) | rfl)) only [↓stPre, stOwn, stNat, stList, stProp, Nat.reduceEqDiff, Nat.reduceLT, Nat.reduceLeDiff, ↓reduceIte, eq_self, true_implies, false_implies, ite_true, ite_false, if_true, if_false, ne_eq, xf15]
  simp [ground, scal]

end Go.Sim

set_option linter.unusedSimpArgs false
namespace Go.Sim
open Go Go.Proofs

/-- The sum and the power after k rounds of a trace. -/
def trS (p e : Nat) (m : List Nat) (x : Nat) : Nat → Nat × Nat
  | 0 => (0, x)
  | k + 1 => (addF p e (trS p e m x k).1 (trS p e m x k).2, powF p e m (trS p e m x k).2 p)
def trF (p e : Nat) (m : List Nat) (x : Nat) : Nat := (trS p e m x e).1

theorem trace_spec {p e b c x : Nat} {m : List Nat} {g : Nat} {E : List Nat} {H : AH} {el : TypeId} {op : Option Nat} {r : Bool} (F : FT p e m g E) (hb : H[b]? = some (.cells (m.map nv) el op r)) (hx : x < p ^ e) :
    FN Try.prog 35 [fldv p e b e c, nv x] H (fun v H' => v = nv (trF p e m x) ∧ H' = H) := by
  have hp := F.hp
  have he6 := F.e6
  have hq := F.q
  have hq2 := F.q2
  have hp64 : p ≤ 64 := by have := pow_le64 (k := 1) F.p2 F.e1 F.q; simpa using this
  have hb2 := fun (Y : AH) => get_old (L := Y) hb
  have hs : ∀ k, (trS p e m x k).1 < p ^ e ∧ (trS p e m x k).2 < p ^ e := by
    intro k
    induction k with
    | zero => exact ⟨by show 0 < p ^ e; omega, hx⟩
    | succ k ih =>
      refine ⟨addF_lt hp, ?_⟩
      show powF p e m (trS p e m x k).2 p < p ^ e
      rw [F.powF _ _ ih.2]
      exact F.pw_lt _ _
  refine FN.gc0 (FN.of_compZ mixed xf35_ok (Nat.le_of_ble_eq_true rfl) ?_)
  have hmin : min e 6 = e := Nat.min_eq_left he6
  simp (disch := (first | omega | (simp only [List.length_map]; omega) | (simp only [List.length_map, List.length_set, List.length_replicate, List.length_append, List.length_cons, List.length_nil] <;> omega) | (simp only [all_nv]; done) | rfl)) only [↓stPre, stOwn, stNat, stList, stProp, Nat.reduceEqDiff, Nat.reduceLT, Nat.reduceLeDiff, ↓reduceIte, eq_self, true_implies, false_implies, ite_true, ite_false, if_true, if_false, ne_eq, xf35, hmin]
  refine LZ.nat e (fun k s H' => s.env 2 = .pointer (some ⟨H.length, 0, none⟩) ∧ s.env 1 = nv (trS p e m x k).2 ∧ s.env 5 = nv (trS p e m x k).1 ∧ s.env 8 = nv e ∧ s.env 9 = nv k ∧ s.ds = [] ∧
     H' = H ++ [.cells [nv p, nv e, .slice (some ⟨b, 0, none⟩) e c] 26 none false]) ?_ ?_ ?_
  · simp (disch := (first | omega | (simp only [List.length_map]; omega) | (simp only [List.length_map, List.length_set, List.length_replicate, List.length_append, List.length_cons, List.length_nil] <;> omega) | (simp only [all_nv]; done) | rfl)) only [↓stPre, stOwn, stNat, stList, stProp, Nat.reduceEqDiff, Nat.reduceLT, Nat.reduceLeDiff, ↓reduceIte, eq_self, true_implies, false_implies, ite_true, ite_false, if_true, if_false, ne_eq]
    simp [trS]
  · rintro k s H1 hk ⟨e2, e1, e5, e8, e9, eds, rfl⟩
    obtain ⟨h1, h2⟩ := hs k
    simp (disch := (first | omega | (simp only [List.length_map]; omega) | (simp only [List.length_map, List.length_set, List.length_replicate, List.length_append, List.length_cons, List.length_nil] <;> omega) | (simp only [all_nv]; done) | rfl)) only [↓stPre, stOwn, stNat, stList, stProp, Nat.reduceEqDiff, Nat.reduceLT, Nat.reduceLeDiff, ↓reduceIte, eq_self, true_implies, false_implies, ite_true, ite_false, if_true, if_false, ne_eq, e2, e1, e5, e8, e9, eds, hk]
    refine FZ.use (add_spec F.p2 F.e1 F.e6 rfl F.q (by omega) (by omega)) ?_
    simp (disch := (first | omega | (simp only [List.length_map]; omega) | (simp only [List.length_map, List.length_set, List.length_replicate, List.length_append, List.length_cons, List.length_nil] <;> omega) | (simp only [all_nv]; done) | rfl)) only [↓stPre, stOwn, stNat, stList, stProp, Nat.reduceEqDiff, Nat.reduceLT, Nat.reduceLeDiff, ↓reduceIte, eq_self, true_implies, false_implies, ite_true, ite_false, if_true, if_false, ne_eq, e2, e1, e5, e8, e9, eds, hk]
    refine FZ.use (power_spec (hb2 _) F.len F.lt F.p2 F.e1 F.e6 F.q (by omega) (by omega)) ?_
    simp (disch := (first | omega | (simp only [List.length_map]; omega) | (simp only [List.length_map, List.length_set, List.length_replicate, List.length_append, List.length_cons, List.length_nil] <;> omega) | (simp only [all_nv]; done) | rfl)) only [↓stPre, stOwn, stNat, stList, stProp, Nat.reduceEqDiff, Nat.reduceLT, Nat.reduceLeDiff, ↓reduceIte, eq_self, true_implies, false_implies, ite_true, ite_false, if_true, if_false, ne_eq, e2, e1, e5, e8, e9, eds, hk]
    simp [trS]
  · rintro s H1 ⟨e2, e1, e5, e8, e9, eds, rfl⟩
    simp (disch := (first | omega | (simp only [List.length_map]; omega) | (simp only [List.length_map, List.length_set, List.length_replicate, List.length_append, List.length_cons, List.length_nil] <;> omega) | (simp only [all_nv]; done) | rfl)) only [↓stPre, stOwn, stNat, stList, stProp, Nat.reduceEqDiff, Nat.reduceLT, Nat.reduceLeDiff, ↓reduceIte, eq_self, true_implies, false_implies, ite_true, ite_false, if_true, if_false, ne_eq, e2, e1, e5, e8, e9, eds, xf35]
    simp [ground, scal, trF]

/-! ### plain -/
section
variable {p e : Nat} {m : List Nat} {g : Nat} {E : List Nat} (F : FT p e m g E)
include F
theorem FT.pw_zero (n : Nat) (h : n ≠ 0) : pw p e m 0 n = 0 := by
  obtain ⟨k, rfl⟩ : ∃ k, n = k + 1 := ⟨n - 1, by omega⟩
  exact mul_zeroF F.toFd _ _ (.inl rfl)
/-- The law's power. -/
theorem FT.powL_nat (x n : Nat) (hx : x < p ^ e) : powL p e m x (n : Int) = ((pw p e m x n : Nat) : Int) := by
  have hq2 := F.q2
  have key : powZ p e m x (n : Int) = (pw p e m x n, 0) := by
    unfold powZ
    by_cases hn : n = 0
    · subst hn; rfl
    · rw [if_neg (by omega)]
      by_cases h0 : x = 0
      · subst h0
        rw [if_pos rfl, if_neg (by omega), F.pw_zero n hn]
      · rw [if_neg h0]
        have : ((n : Int) % ((p ^ e : Nat) - 1 : Int)).toNat = n % (p ^ e - 1) := by
          have h1 : ((p ^ e : Nat) - 1 : Int) = ((p ^ e - 1 : Nat) : Int) := by omega
          rw [h1, ← Int.natCast_emod]
          exact Int.toNat_natCast _
        rw [this, F.powF _ _ hx, ← F.pw_mod x hx h0]
  unfold powL
  rw [key]
  rfl
end
theorem addF_small {p e t u : Nat} (hp : 2 ≤ p) (he : 1 ≤ e) (ht : t < p) (hu : u < p) : addF p e t u = (t + u) % p := by
  have hp0 : 0 < p := by omega
  have hsm : ∀ x i, x < p → i ≠ 0 → dg p x i = 0 := fun x i hx hi => by
    unfold dg
    rw [Nat.div_eq_of_lt, Nat.zero_mod]
    exact Nat.lt_of_lt_of_le hx (by simpa using Nat.pow_le_pow_right hp0 (show 1 ≤ i by omega))
  have hz : ∀ x, x < p → dg p x 0 = x := fun x hx => by unfold dg; rw [Nat.pow_zero, Nat.div_one, Nat.mod_eq_of_lt hx]
  have hm := Nat.mod_lt (t + u) hp0
  refine digit_ext hp0 e _ _ (addF_lt hp0) (Nat.lt_of_lt_of_le hm (by simpa using Nat.pow_le_pow_right hp0 he)) (fun i hi => ?_)
  refine (addF_dg hp0 hi).trans ?_
  show _ = dg p ((t + u) % p) i
  by_cases h0 : i = 0
  · subst h0; rw [hz t ht, hz u hu, hz _ hm]
  · rw [hsm t i ht h0, hsm u i hu h0, hsm _ i hm h0]; simp

/-- The table of the powers P and of the traces. -/
def trP (p e : Nat) (Φ : List Nat) (x : Nat) : Nat → Nat × Nat
  | 0 => (0, x)
  | k + 1 => (addF p e (trP p e Φ x k).1 (trP p e Φ x k).2, Φ.getD (trP p e Φ x k).2 0)
def cntK (TR : List Nat) (l : List Nat) (c : Nat) : List Nat := l.set (TR.getD c 0) (l.getD (TR.getD c 0) 0 + 1)
def frB (p e : Nat) (m Φ TR : List Nat) : Bool :=
  (List.range (p ^ e)).all (fun a => Nat.beq (Φ.getD a 0) (powF p e m a p) && (List.range e).all (fun i => Nat.beq (Φ.getD (addF p e a (p ^ i)) 0) (addF p e (Φ.getD a 0) (Φ.getD (p ^ i) 0))) &&
    Nat.beq (TR.getD a 0) (trP p e Φ a e).1 && Nat.blt (TR.getD a 0) p && Nat.beq (TR.getD (Φ.getD a 0) 0) (TR.getD a 0)) &&
  ((List.range (p ^ e)).foldl (cntK TR) (List.replicate p 0) == List.replicate p (p ^ e / p))
structure FR (p e : Nat) (m : List Nat) (g : Nat) (E Φ TR : List Nat) : Prop extends FT p e m g E where
  fr : frB p e m Φ TR = true
section
variable {p e : Nat} {m : List Nat} {g : Nat} {E Φ TR : List Nat} (F : FR p e m g E Φ TR)
include F
theorem FR.at (a : Nat) (ha : a < p ^ e) : Φ.getD a 0 = pw p e m a p ∧ (∀ i, i < e → Φ.getD (addF p e a (p ^ i)) 0 = addF p e (Φ.getD a 0) (Φ.getD (p ^ i) 0)) ∧ TR.getD a 0 = (trP p e Φ a e).1 ∧ TR.getD a 0 < p ∧ TR.getD (Φ.getD a 0) 0 = TR.getD a 0 := by
  have h := F.fr
  simp only [frB, Bool.and_eq_true, List.all_eq_true, List.mem_range] at h
  obtain ⟨⟨⟨⟨h1, h2⟩, h3⟩, h4⟩, h5⟩ := h.1 a ha
  have h1 := Nat.eq_of_beq_eq_true h1
  rw [F.powF a p ha] at h1
  exact ⟨h1, fun i hi => Nat.eq_of_beq_eq_true (h2 i hi), Nat.eq_of_beq_eq_true h3, Nat.lt_of_lt_of_le (Nat.lt_succ_self _) (Nat.le_of_ble_eq_true h4), Nat.eq_of_beq_eq_true h5⟩
theorem FR.cnt : (List.range (p ^ e)).foldl (cntK TR) (List.replicate p 0) = List.replicate p (p ^ e / p) := by
  have h := F.fr
  simp only [frB, Bool.and_eq_true, beq_iff_eq] at h
  exact h.2
theorem FR.phi_add (a b : Nat) (ha : a < p ^ e) (hb : b < p ^ e) : Φ.getD (addF p e a b) 0 = addF p e (Φ.getD a 0) (Φ.getD b 0) := by
  have hp := F.hp
  have hq2 := F.q2
  have hlt : ∀ x, x < p ^ e → Φ.getD x 0 < p ^ e := fun x hx => by rw [(F.at x hx).1]; exact F.pw_lt _ _
  have hpi : ∀ i, i < e → p ^ i < p ^ e := fun i hi => Nat.pow_lt_pow_right (by have := F.p2; omega) hi
  have key : b < p ^ e ∧ ∀ a, a < p ^ e → Φ.getD (addF p e a b) 0 = addF p e (Φ.getD a 0) (Φ.getD b 0) := by
    refine F.gen (fun b => b < p ^ e ∧ ∀ a, a < p ^ e → Φ.getD (addF p e a b) 0 = addF p e (Φ.getD a 0) (Φ.getD b 0)) ⟨by omega, fun a ha => ?_⟩ (fun i hi => ⟨hpi i hi, fun a ha => (F.at a ha).2.1 i hi⟩) (fun x y hx hy => ⟨addF_lt hp, fun a ha => ?_⟩) b hb
    · rw [addF_zero hp ha, (F.at 0 (by omega)).1, F.pw_zero p (by omega), addF_zero hp (hlt a ha)]
    · rw [← addF_assoc hp, hy.2 _ (addF_lt hp), hx.2 a ha, hy.2 x hx.1, addF_assoc hp]
  exact key.2 a ha
theorem FR.trP_eq (x : Nat) (hx : x < p ^ e) : ∀ k, trS p e m x k = trP p e Φ x k ∧ (trP p e Φ x k).1 < p ^ e ∧ (trP p e Φ x k).2 < p ^ e
  | 0 => ⟨rfl, by have := F.q2; show 0 < p ^ e; omega, hx⟩
  | k + 1 => by
    obtain ⟨h1, h2, h3⟩ := FR.trP_eq x hx k
    refine ⟨?_, addF_lt F.hp, ?_⟩
    · rw [trS, trP, h1, F.powF _ _ h3, (F.at _ h3).1]
    · rw [trP, (F.at _ h3).1]; exact F.pw_lt _ _
theorem FR.tr (x : Nat) (hx : x < p ^ e) : trF p e m x = TR.getD x 0 := by
  rw [trF, (F.trP_eq x hx e).1, (F.at x hx).2.2.1]
theorem FR.trP_add (a b : Nat) (ha : a < p ^ e) (hb : b < p ^ e) : ∀ k, trP p e Φ (addF p e a b) k = (addF p e (trP p e Φ a k).1 (trP p e Φ b k).1, addF p e (trP p e Φ a k).2 (trP p e Φ b k).2)
  | 0 => by
    have := F.q2
    simp only [trP]; rw [addF_zero F.hp (by omega)]
  | k + 1 => by
    have hp := F.hp
    obtain ⟨_, h1, h2⟩ := F.trP_eq a ha k
    obtain ⟨_, h3, h4⟩ := F.trP_eq b hb k
    simp only [trP, FR.trP_add a b ha hb k]
    rw [F.phi_add _ _ h2 h4]
    generalize (trP p e Φ a k).1 = s1 at *
    generalize (trP p e Φ a k).2 = s2 at *
    generalize (trP p e Φ b k).1 = t1 at *
    generalize (trP p e Φ b k).2 = t2 at *
    congr 1
    rw [addF_assoc hp, addF_assoc hp]
    congr 1
    rw [← addF_assoc hp, ← addF_assoc hp, addF_comm hp t1 s2]
theorem FR.tr_add (a b : Nat) (ha : a < p ^ e) (hb : b < p ^ e) : trF p e m (addF p e a b) = (trF p e m a + trF p e m b) % p := by
  rw [F.tr _ (addF_lt F.hp), F.tr a ha, F.tr b hb, ← addF_small F.p2 F.e1 (F.at a ha).2.2.2.1 (F.at b hb).2.2.2.1, (F.at _ (addF_lt F.hp)).2.2.1, F.trP_add a b ha hb, (F.at a ha).2.2.1, (F.at b hb).2.2.1]
end
end Go.Sim

set_option linter.unusedSimpArgs false
namespace Go.Sim
open Go Go.Proofs

structure FM (p e : Nat) (m : List Nat) (g : Nat) (E fs : List Nat) : Prop extends FP p e m g E fs where
  rm : rmB p e m = true

theorem neg_eq {p e b : Nat} (hp : 0 < p) : negF p e b = subF p e 0 b := by
  have h := rsub_eq (e := e) (a := 0) (b := b) hp
  have hl : (negL p (digs p b e)).length = e := by simp [negL, digs_length]
  have hlt : negF p e b < p ^ e := by
    have := num_lt (p := p) hp (negL p (digs p b e)) (by
      intro z hz
      simp only [negL, List.mem_map] at hz
      obtain ⟨w, _, rfl⟩ := hz
      exact Nat.mod_lt _ hp)
    rwa [hl] at this
  rw [addF_comm hp, addF_zero hp hlt] at h
  exact h

theorem emod_tmod {n N : Int} (hN : 0 < N) : n % N = if n.tmod N < 0 then n.tmod N + N else n.tmod N := by
  have h1 := Int.tmod_lt_of_pos n hN
  have h2 := Int.lt_tmod_of_pos n hN
  have h3 : n % N = (n.tmod N) % N := by
    have h4 := Int.mul_tdiv_add_tmod n N
    have : n = n.tmod N + N * (n.tdiv N) := by omega
    rw [this, Int.add_mul_emod_self_left, ← this]
  rw [h3]
  split
  · rw [← Int.add_emod_right, Int.emod_eq_of_lt (by omega) (by omega)]
  · rw [Int.emod_eq_of_lt (by omega) h1]

section
variable {p e b c x : Nat} {m fs : List Nat} {g : Nat} {E : List Nat} {H : AH} {el : TypeId} {op : Option Nat} {r : Bool}

theorem rmulM (F : FM p e m g E fs) (hb : H[b]? = some (.cells (m.map nv) el op r)) {y : Nat} (hx : x < p ^ e) (hy : y < p ^ e) : FN Try.prog 24 [fldv p e b e c, nv x, nv y] H (fun v H' => v = nv (mulF p e m x y) ∧ H' = H) := by
  have hq := F.q
  have h := rmul_spec (c := c) hb F.len F.lt F.p2 F.e1 F.e6 F.q (show x < 1000 by omega) (show y < 1000 by omega)
  rwa [rmul_eq F.toFT F.rm x y hx hy] at h

theorem inv_uniq (F : FM p e m g E fs) {y : Nat} (hx : x < p ^ e) (h0 : x ≠ 0) (hy : y < p ^ e) (h : mulF p e m x y = 1) : y = pw p e m x (p ^ e - 2) := by
  have hI := F.mul_inv x hx h0
  have hlt := F.pw_lt x (p ^ e - 2)
  generalize pw p e m x (p ^ e - 2) = I at *
  have h1 : mulF p e m I (mulF p e m x y) = y := by
    rw [← F.mul_assoc _ _ _ hlt hx hy, F.mul_comm I x hlt hx, hI, F.one_mul y hy]
  rw [h, F.mul_one I hlt] at h1
  exact h1.symm
theorem powZ_inv (F : FM p e m g E fs) (hx : x < p ^ e) (h0 : x ≠ 0) : powZ p e m x (-1) = (pw p e m x (p ^ e - 2), 0) := by
  have := F.q2
  have h1 : ((-1 : Int) % ((p ^ e : Nat) - 1 : Int)).toNat = p ^ e - 2 := by
    rcases Nat.eq_or_lt_of_le this with h | h
    · rw [← h]; rfl
    · have : (-1 : Int) % ((p ^ e : Nat) - 1 : Int) = ((p ^ e : Nat) - 2 : Int) := by
        rw [← Int.add_mul_emod_self_left (-1) _ 1]
        rw [Int.emod_eq_of_lt (by omega) (by omega)]
        omega
      omega
  unfold powZ
  rw [if_neg (by omega), if_neg h0, h1, F.powF x _ hx]

theorem rinv_spec (F : FM p e m g E fs) (hb : H[b]? = some (.cells (m.map nv) el op r)) (hx : x < p ^ e) :
    FN Try.prog 28 [fldv p e b e c, nv x] H (fun v H' => v = .tuple [nv (powZ p e m x (-1)).1, nv (powZ p e m x (-1)).2].toArray ∧ H' = H) := by
  have hb2 := fun (Y : AH) => get_old (L := Y) hb
  have hq := F.q
  refine FN.gc0 (FN.of_compZ mixed xf28_ok (Nat.le_of_ble_eq_true rfl) ?_)
  by_cases h0 : x = 0
  · subst h0
    simp (disch := (first | omega | (simp only [List.length_map]; omega) | (simp only [List.length_map, List.length_set, List.length_replicate, List.length_append, List.length_cons, List.length_nil] <;> omega) | (simp only [all_nv]; done) | rfl)) only [↓stPre, stOwn, stNat, stList, stProp, Nat.reduceEqDiff, Nat.reduceLT, Nat.reduceLeDiff, ↓reduceIte, eq_self, true_implies, false_implies, ite_true, ite_false, if_true, if_false, ne_eq, xf28]
    simp [ground, scal, powZ]
  · rw [powZ_inv F hx h0]
    have hI := F.mul_inv x hx h0
    have hu := fun y hy => inv_uniq F (x := x) (y := y) hx h0 hy
    have hlt := F.pw_lt x (p ^ e - 2)
    have hne := F.pw_ne x (p ^ e - 2) hx h0
    generalize pw p e m x (p ^ e - 2) = I at *
    simp (disch := (first | omega | (simp only [List.length_map]; omega) | (simp only [List.length_map, List.length_set, List.length_replicate, List.length_append, List.length_cons, List.length_nil] <;> omega) | (simp only [all_nv]; done) | rfl)) only [↓stPre, stOwn, stNat, stList, stProp, Nat.reduceEqDiff, Nat.reduceLT, Nat.reduceLeDiff, ↓reduceIte, eq_self, true_implies, false_implies, ite_true, ite_false, if_true, if_false, ne_eq, xf28, h0]
    refine LZ.nat (I - 1) (fun k s H' => s.env 1 = nv x ∧ s.env 2 = .pointer (some ⟨H.length, 0, none⟩) ∧ s.env 6 = nv (k + 1) ∧ s.ds = [] ∧ H' = H ++ [.cells [nv p, nv e, .slice (some ⟨b, 0, none⟩) e c] 26 none false]) ?_ ?_ ?_
    · simp (disch := (first | omega | (simp only [List.length_map]; omega) | (simp only [List.length_map, List.length_set, List.length_replicate, List.length_append, List.length_cons, List.length_nil] <;> omega) | (simp only [all_nv]; done) | rfl)) only [↓stPre, stOwn, stNat, stList, stProp, Nat.reduceEqDiff, Nat.reduceLT, Nat.reduceLeDiff, ↓reduceIte, eq_self, true_implies, false_implies, ite_true, ite_false, if_true, if_false, ne_eq]
    · rintro k s H1 hk ⟨e1, e2, e6, eds, rfl⟩
      have hk1 : k + 1 < p ^ e := by omega
      have hn1 : ¬ mulF p e m x (k + 1) = 1 := fun h => by have := hu (k + 1) hk1 h; omega
      simp (disch := (first | omega | (simp only [List.length_map]; omega) | (simp only [List.length_map, List.length_set, List.length_replicate, List.length_append, List.length_cons, List.length_nil] <;> omega) | (simp only [all_nv]; done) | rfl)) only [↓stPre, stOwn, stNat, stList, stProp, Nat.reduceEqDiff, Nat.reduceLT, Nat.reduceLeDiff, ↓reduceIte, eq_self, true_implies, false_implies, ite_true, ite_false, if_true, if_false, ne_eq, e1, e2, e6, eds]
      refine FZ.use (rsize_spec F.p2 F.q) ?_
      simp (disch := (first | omega | (simp only [List.length_map]; omega) | (simp only [List.length_map, List.length_set, List.length_replicate, List.length_append, List.length_cons, List.length_nil] <;> omega) | (simp only [all_nv]; done) | rfl)) only [↓stPre, stOwn, stNat, stList, stProp, Nat.reduceEqDiff, Nat.reduceLT, Nat.reduceLeDiff, ↓reduceIte, eq_self, true_implies, false_implies, ite_true, ite_false, if_true, if_false, ne_eq, e1, e2, e6, eds, hk1]
      refine FZ.use (rmulM F (hb2 _) hx hk1) ?_
      simp (disch := (first | omega | (simp only [List.length_map]; omega) | (simp only [List.length_map, List.length_set, List.length_replicate, List.length_append, List.length_cons, List.length_nil] <;> omega) | (simp only [all_nv]; done) | rfl)) only [↓stPre, stOwn, stNat, stList, stProp, Nat.reduceEqDiff, Nat.reduceLT, Nat.reduceLeDiff, ↓reduceIte, eq_self, true_implies, false_implies, ite_true, ite_false, if_true, if_false, ne_eq, e1, e2, e6, eds, hn1]
    · rintro s H1 ⟨e1, e2, e6, eds, rfl⟩
      have hI1 : I - 1 + 1 = I := by omega
      rw [hI1] at e6
      simp (disch := (first | omega | (simp only [List.length_map]; omega) | (simp only [List.length_map, List.length_set, List.length_replicate, List.length_append, List.length_cons, List.length_nil] <;> omega) | (simp only [all_nv]; done) | rfl)) only [↓stPre, stOwn, stNat, stList, stProp, Nat.reduceEqDiff, Nat.reduceLT, Nat.reduceLeDiff, ↓reduceIte, eq_self, true_implies, false_implies, ite_true, ite_false, if_true, if_false, ne_eq, e1, e2, e6, eds]
      refine FZ.use (rsize_spec F.p2 F.q) ?_
      simp (disch := (first | omega | (simp only [List.length_map]; omega) | (simp only [List.length_map, List.length_set, List.length_replicate, List.length_append, List.length_cons, List.length_nil] <;> omega) | (simp only [all_nv]; done) | rfl)) only [↓stPre, stOwn, stNat, stList, stProp, Nat.reduceEqDiff, Nat.reduceLT, Nat.reduceLeDiff, ↓reduceIte, eq_self, true_implies, false_implies, ite_true, ite_false, if_true, if_false, ne_eq, e1, e2, e6, eds, hlt]
      refine FZ.use (rmulM F (hb2 _) hx hlt) ?_
      simp (disch := (first | omega | (simp only [List.length_map]; omega) | (simp only [List.length_map, List.length_set, List.length_replicate, List.length_append, List.length_cons, List.length_nil] <;> omega) | (simp only [all_nv]; done) | rfl)) only [↓stPre, stOwn, stNat, stList, stProp, Nat.reduceEqDiff, Nat.reduceLT, Nat.reduceLeDiff, ↓reduceIte, eq_self, true_implies, false_implies, ite_true, ite_false, if_true, if_false, ne_eq, e1, e2, e6, eds, hI, xf28]
      simp [ground, scal]

theorem rpow30_spec (F : FM p e m g E fs) (hb : H[b]? = some (.cells (m.map nv) el op r)) (hx : x < p ^ e) {n : Int} :
    FN Try.prog 30 [fldv p e b e c, nv x, .int .i64 n] H (fun v H' => v = .tuple [nv (powZ p e m x n).1, nv (powZ p e m x n).2].toArray ∧ H' = H) := by
  have hb2 := fun (Y : AH) => get_old (L := Y) hb
  have hq := F.q
  have hq2 := F.q2
  by_cases hn : n = 0
  · subst hn
    refine FN.chg (a1 := [fldv p e b e c, nv x, nv 0]) ?_ rfl
    refine FN.gc0 (FN.of_compZ mixed xf30_ok (Nat.le_of_ble_eq_true rfl) ?_)
    simp (disch := (first | omega | (simp only [List.length_map]; omega) | (simp only [List.length_map, List.length_set, List.length_replicate, List.length_append, List.length_cons, List.length_nil] <;> omega) | (simp only [all_nv]; done) | rfl)) only [↓stPre, stOwn, stNat, stList, stProp, Nat.reduceEqDiff, Nat.reduceLT, Nat.reduceLeDiff, ↓reduceIte, eq_self, true_implies, false_implies, ite_true, ite_false, if_true, if_false, ne_eq, xf30]
    simp [ground, scal, powZ]
  refine FN.gc0 (FN.of_compZ mixed xf30_ok (Nat.le_of_ble_eq_true rfl) ?_)
  have hn' : ¬ n = ((0 : Nat) : Int) := hn
  by_cases h0 : x = 0
  · subst h0
    by_cases hneg : n < 0
    · have hnn : n < ((0 : Nat) : Int) := hneg
      simp (disch := (first | omega | (simp only [List.length_map]; omega) | (simp only [List.length_map, List.length_set, List.length_replicate, List.length_append, List.length_cons, List.length_nil] <;> omega) | (simp only [all_nv]; done) | rfl)) only [↓stPre, stOwn, stInt, stList, stProp, Nat.reduceEqDiff, Nat.reduceLT, Nat.reduceLeDiff, ↓reduceIte, eq_self, true_implies, false_implies, ite_true, ite_false, if_true, if_false, ne_eq, xf30, hn', hnn]
      simp [ground, scal, powZ, hn, hneg]
    · have hnn : ¬ n < ((0 : Nat) : Int) := hneg
      simp (disch := (first | omega | (simp only [List.length_map]; omega) | (simp only [List.length_map, List.length_set, List.length_replicate, List.length_append, List.length_cons, List.length_nil] <;> omega) | (simp only [all_nv]; done) | rfl)) only [↓stPre, stOwn, stInt, stList, stProp, Nat.reduceEqDiff, Nat.reduceLT, Nat.reduceLeDiff, ↓reduceIte, eq_self, true_implies, false_implies, ite_true, ite_false, if_true, if_false, ne_eq, xf30, hn', hnn]
      simp [ground, scal, powZ, hn, hneg]
  · have hx' : ¬ (x : Int) = ((0 : Nat) : Int) := by omega
    simp (disch := (first | omega | (simp only [List.length_map]; omega) | (simp only [List.length_map, List.length_set, List.length_replicate, List.length_append, List.length_cons, List.length_nil] <;> omega) | (simp only [all_nv]; done) | rfl)) only [↓stPre, stOwn, stInt, stList, stProp, Nat.reduceEqDiff, Nat.reduceLT, Nat.reduceLeDiff, ↓reduceIte, eq_self, true_implies, false_implies, ite_true, ite_false, if_true, if_false, ne_eq, xf30, hn', hx']
    refine FZ.use (rsize_spec F.p2 F.q) ?_
    simp (disch := (first | omega | (simp only [List.length_map]; omega) | (simp only [List.length_map, List.length_set, List.length_replicate, List.length_append, List.length_cons, List.length_nil] <;> omega) | (simp only [all_nv]; done) | rfl)) only [↓stPre, stOwn, stNat, stList, stProp, Nat.reduceEqDiff, Nat.reduceLT, Nat.reduceLeDiff, ↓reduceIte, eq_self, true_implies, false_implies, ite_true, ite_false, if_true, if_false, ne_eq]
    have hN : (0 : Int) < ((p ^ e - 1 : Nat) : Int) := by omega
    have ht := emod_tmod (n := n) hN
    have t1 := Int.tmod_lt_of_pos n hN
    have t2 := Int.lt_tmod_of_pos n hN
    have hNe : ((p ^ e - 1 : Nat) : Int) ≠ 0 := by omega
    have hcast : (((p ^ e : Nat) : Int) - 1) = ((p ^ e - 1 : Nat) : Int) := by omega
    have hpz : powZ p e m x n = (pw p e m x (n % ((p ^ e - 1 : Nat) : Int)).toNat, 0) := by
      unfold powZ
      rw [if_neg hn, if_neg h0, hcast, F.powF x _ hx]
    rw [hpz]
    clear hpz
    by_cases hk : n.tmod ((p ^ e - 1 : Nat) : Int) < 0
    · rw [if_pos hk] at ht
      have hk' : n.tmod ((p ^ e - 1 : Nat) : Int) < ((0 : Nat) : Int) := hk
      simp (disch := (first | omega | (simp only [List.length_map]; omega) | (simp only [List.length_map, List.length_set, List.length_replicate, List.length_append, List.length_cons, List.length_nil] <;> omega) | (simp only [all_nv]; done) | rfl)) only [↓stPre, stOwn, stInt, stList, stProp, Nat.reduceEqDiff, Nat.reduceLT, Nat.reduceLeDiff, ↓reduceIte, eq_self, true_implies, false_implies, ite_true, ite_false, if_true, if_false, ne_eq, hk']
      refine FZ.use (rsize_spec F.p2 F.q) ?_
      simp (disch := (first | omega | (simp only [List.length_map]; omega) | (simp only [List.length_map, List.length_set, List.length_replicate, List.length_append, List.length_cons, List.length_nil] <;> omega) | (simp only [all_nv]; done) | rfl)) only [↓stPre, stOwn, stInt, stList, stProp, Nat.reduceEqDiff, Nat.reduceLT, Nat.reduceLeDiff, ↓reduceIte, eq_self, true_implies, false_implies, ite_true, ite_false, if_true, if_false, ne_eq]
      rw [ht]
      generalize n.tmod ((p ^ e - 1 : Nat) : Int) = k0 at *
      obtain ⟨K, hK⟩ : ∃ K : Nat, k0 + ((p ^ e : Nat) : Int) - ((1 : Nat) : Int) = K := ⟨(k0 + ((p ^ e : Nat) : Int) - 1).toNat, by omega⟩
      have hK2 : (k0 + ((p ^ e - 1 : Nat) : Int)).toNat = K := by omega
      rw [hK, hK2]
      refine LZ.nat K (fun k s H' => s.env 1 = nv x ∧ s.env 3 = .pointer (some ⟨H.length, 0, none⟩) ∧ s.env 8 = nv K ∧ s.env 9 = nv (pw p e m x k) ∧ s.env 10 = nv k ∧ s.ds = [] ∧ H' = H ++ [.cells [nv p, nv e, .slice (some ⟨b, 0, none⟩) e c] 26 none false]) ?_ ?_ ?_
      · simp (disch := (first | omega | (simp only [List.length_map]; omega) | (simp only [List.length_map, List.length_set, List.length_replicate, List.length_append, List.length_cons, List.length_nil] <;> omega) | (simp only [all_nv]; done) | rfl)) only [↓stPre, stOwn, stNat, stList, stProp, Nat.reduceEqDiff, Nat.reduceLT, Nat.reduceLeDiff, ↓reduceIte, eq_self, true_implies, false_implies, ite_true, ite_false, if_true, if_false, ne_eq]
        simp [pw]
      · rintro k s H1 hk ⟨e1, e3, e8, e9, e10, eds, rfl⟩
        have hlt := F.pw_lt x k
        have hnx : mulF p e m (pw p e m x k) x = pw p e m x (k + 1) := F.mul_comm _ _ hlt hx
        simp (disch := (first | omega | (simp only [List.length_map]; omega) | (simp only [List.length_map, List.length_set, List.length_replicate, List.length_append, List.length_cons, List.length_nil] <;> omega) | (simp only [all_nv]; done) | rfl)) only [↓stPre, stOwn, stNat, stList, stProp, Nat.reduceEqDiff, Nat.reduceLT, Nat.reduceLeDiff, ↓reduceIte, eq_self, true_implies, false_implies, ite_true, ite_false, if_true, if_false, ne_eq, e1, e3, e8, e9, e10, eds, hk]
        refine FZ.use (rmulM F (hb2 _) hlt hx) ?_
        simp (disch := (first | omega | (simp only [List.length_map]; omega) | (simp only [List.length_map, List.length_set, List.length_replicate, List.length_append, List.length_cons, List.length_nil] <;> omega) | (simp only [all_nv]; done) | rfl)) only [↓stPre, stOwn, stNat, stList, stProp, Nat.reduceEqDiff, Nat.reduceLT, Nat.reduceLeDiff, ↓reduceIte, eq_self, true_implies, false_implies, ite_true, ite_false, if_true, if_false, ne_eq, e1, e3, e8, e9, e10, eds, hnx]
      · rintro s H1 ⟨e1, e3, e8, e9, e10, eds, rfl⟩
        simp (disch := (first | omega | (simp only [List.length_map]; omega) | (simp only [List.length_map, List.length_set, List.length_replicate, List.length_append, List.length_cons, List.length_nil] <;> omega) | (simp only [all_nv]; done) | rfl)) only [↓stPre, stOwn, stNat, stList, stProp, Nat.reduceEqDiff, Nat.reduceLT, Nat.reduceLeDiff, ↓reduceIte, eq_self, true_implies, false_implies, ite_true, ite_false, if_true, if_false, ne_eq, e1, e3, e8, e9, e10, eds, xf30]
        simp [ground, scal]
    · rw [if_neg hk] at ht
      have hk' : ¬ n.tmod ((p ^ e - 1 : Nat) : Int) < ((0 : Nat) : Int) := hk
      simp (disch := (first | omega | (simp only [List.length_map]; omega) | (simp only [List.length_map, List.length_set, List.length_replicate, List.length_append, List.length_cons, List.length_nil] <;> omega) | (simp only [all_nv]; done) | rfl)) only [↓stPre, stOwn, stInt, stList, stProp, Nat.reduceEqDiff, Nat.reduceLT, Nat.reduceLeDiff, ↓reduceIte, eq_self, true_implies, false_implies, ite_true, ite_false, if_true, if_false, ne_eq, hk']
      rw [ht]
      generalize n.tmod ((p ^ e - 1 : Nat) : Int) = k0 at *
      obtain ⟨K, rfl⟩ : ∃ K : Nat, k0 = K := ⟨k0.toNat, by omega⟩
      rw [Int.toNat_natCast]
      refine LZ.nat K (fun k s H' => s.env 1 = nv x ∧ s.env 3 = .pointer (some ⟨H.length, 0, none⟩) ∧ s.env 8 = nv K ∧ s.env 9 = nv (pw p e m x k) ∧ s.env 10 = nv k ∧ s.ds = [] ∧ H' = H ++ [.cells [nv p, nv e, .slice (some ⟨b, 0, none⟩) e c] 26 none false]) ?_ ?_ ?_
      · simp (disch := (first | omega | (simp only [List.length_map]; omega) | (simp only [List.length_map, List.length_set, List.length_replicate, List.length_append, List.length_cons, List.length_nil] <;> omega) | (simp only [all_nv]; done) | rfl)) only [↓stPre, stOwn, stNat, stList, stProp, Nat.reduceEqDiff, Nat.reduceLT, Nat.reduceLeDiff, ↓reduceIte, eq_self, true_implies, false_implies, ite_true, ite_false, if_true, if_false, ne_eq]
        simp [pw]
      · rintro k s H1 hk ⟨e1, e3, e8, e9, e10, eds, rfl⟩
        have hlt := F.pw_lt x k
        have hnx : mulF p e m (pw p e m x k) x = pw p e m x (k + 1) := F.mul_comm _ _ hlt hx
        simp (disch := (first | omega | (simp only [List.length_map]; omega) | (simp only [List.length_map, List.length_set, List.length_replicate, List.length_append, List.length_cons, List.length_nil] <;> omega) | (simp only [all_nv]; done) | rfl)) only [↓stPre, stOwn, stNat, stList, stProp, Nat.reduceEqDiff, Nat.reduceLT, Nat.reduceLeDiff, ↓reduceIte, eq_self, true_implies, false_implies, ite_true, ite_false, if_true, if_false, ne_eq, e1, e3, e8, e9, e10, eds, hk]
        refine FZ.use (rmulM F (hb2 _) hlt hx) ?_
        simp (disch := (first | omega | (simp only [List.length_map]; omega) | (simp only [List.length_map, List.length_set, List.length_replicate, List.length_append, List.length_cons, List.length_nil] <;> omega) | (simp only [all_nv]; done) | rfl)) only [↓stPre, stOwn, stNat, stList, stProp, Nat.reduceEqDiff, Nat.reduceLT, Nat.reduceLeDiff, ↓reduceIte, eq_self, true_implies, false_implies, ite_true, ite_false, if_true, if_false, ne_eq, e1, e3, e8, e9, e10, eds, hnx]
      · rintro s H1 ⟨e1, e3, e8, e9, e10, eds, rfl⟩
        simp (disch := (first | omega | (simp only [List.length_map]; omega) | (simp only [List.length_map, List.length_set, List.length_replicate, List.length_append, List.length_cons, List.length_nil] <;> omega) | (simp only [all_nv]; done) | rfl)) only [↓stPre, stOwn, stNat, stList, stProp, Nat.reduceEqDiff, Nat.reduceLT, Nat.reduceLeDiff, ↓reduceIte, eq_self, true_implies, false_implies, ite_true, ite_false, if_true, if_false, ne_eq, e1, e3, e8, e9, e10, eds, xf30]
        simp [ground, scal]

theorem rorder_spec (F : FM p e m g E fs) (hb : H[b]? = some (.cells (m.map nv) el op r)) (hx : x < p ^ e) :
    FN Try.prog 32 [fldv p e b e c, nv x] H (fun v H' => v = nv (ordV p e m fs x) ∧ H' = H) := by
  have hb2 := fun (Y : AH) => get_old (L := Y) hb
  have hq := F.q
  refine FN.gc0 (FN.of_compZ mixed xf32_ok (Nat.le_of_ble_eq_true rfl) ?_)
  by_cases h0 : x = 0
  · subst h0
    simp (disch := (first | omega | (simp only [List.length_map]; omega) | (simp only [List.length_map, List.length_set, List.length_replicate, List.length_append, List.length_cons, List.length_nil] <;> omega) | (simp only [all_nv]; done) | rfl)) only [↓stPre, stOwn, stNat, stList, stProp, Nat.reduceEqDiff, Nat.reduceLT, Nat.reduceLeDiff, ↓reduceIte, eq_self, true_implies, false_implies, ite_true, ite_false, if_true, if_false, ne_eq, xf32]
    simp [ground, scal, ordV]
  · obtain ⟨o1, o2, _, o4, o5⟩ := F.ord x hx h0
    generalize ordV p e m fs x = O at *
    simp (disch := (first | omega | (simp only [List.length_map]; omega) | (simp only [List.length_map, List.length_set, List.length_replicate, List.length_append, List.length_cons, List.length_nil] <;> omega) | (simp only [all_nv]; done) | rfl)) only [↓stPre, stOwn, stNat, stList, stProp, Nat.reduceEqDiff, Nat.reduceLT, Nat.reduceLeDiff, ↓reduceIte, eq_self, true_implies, false_implies, ite_true, ite_false, if_true, if_false, ne_eq, xf32, h0]
    refine LZ.nat (O - 1) (fun k s H' => s.env 1 = nv x ∧ s.env 2 = .pointer (some ⟨H.length, 0, none⟩) ∧ s.env 5 = nv (k + 1) ∧ s.env 6 = nv (pw p e m x (k + 1)) ∧ s.ds = [] ∧ H' = H ++ [.cells [nv p, nv e, .slice (some ⟨b, 0, none⟩) e c] 26 none false]) ?_ ?_ ?_
    · have h1 := F.pw_one x hx
      simp (disch := (first | omega | (simp only [List.length_map]; omega) | (simp only [List.length_map, List.length_set, List.length_replicate, List.length_append, List.length_cons, List.length_nil] <;> omega) | (simp only [all_nv]; done) | rfl)) only [↓stPre, stOwn, stNat, stList, stProp, Nat.reduceEqDiff, Nat.reduceLT, Nat.reduceLeDiff, ↓reduceIte, eq_self, true_implies, false_implies, ite_true, ite_false, if_true, if_false, ne_eq, h1]
    · rintro k s H1 hk ⟨e1, e2, e5, e6, eds, rfl⟩
      have hlt := F.pw_lt x (k + 1)
      have hne := o5 (k + 1) (by omega) (by omega)
      have hnx : mulF p e m (pw p e m x (k + 1)) x = pw p e m x (k + 1 + 1) := F.mul_comm _ _ hlt hx
      simp (disch := (first | omega | (simp only [List.length_map]; omega) | (simp only [List.length_map, List.length_set, List.length_replicate, List.length_append, List.length_cons, List.length_nil] <;> omega) | (simp only [all_nv]; done) | rfl)) only [↓stPre, stOwn, stNat, stList, stProp, Nat.reduceEqDiff, Nat.reduceLT, Nat.reduceLeDiff, ↓reduceIte, eq_self, true_implies, false_implies, ite_true, ite_false, if_true, if_false, ne_eq, e1, e2, e5, e6, eds, hne]
      refine FZ.use (rmulM F (hb2 _) hlt hx) ?_
      simp (disch := (first | omega | (simp only [List.length_map]; omega) | (simp only [List.length_map, List.length_set, List.length_replicate, List.length_append, List.length_cons, List.length_nil] <;> omega) | (simp only [all_nv]; done) | rfl)) only [↓stPre, stOwn, stNat, stList, stProp, Nat.reduceEqDiff, Nat.reduceLT, Nat.reduceLeDiff, ↓reduceIte, eq_self, true_implies, false_implies, ite_true, ite_false, if_true, if_false, ne_eq, e1, e2, e5, e6, eds, hnx]
    · rintro s H1 ⟨e1, e2, e5, e6, eds, rfl⟩
      have hO1 : O - 1 + 1 = O := by omega
      rw [hO1] at e5 e6
      rw [o4] at e6
      simp (disch := (first | omega | (simp only [List.length_map]; omega) | (simp only [List.length_map, List.length_set, List.length_replicate, List.length_append, List.length_cons, List.length_nil] <;> omega) | (simp only [all_nv]; done) | rfl)) only [↓stPre, stOwn, stNat, stList, stProp, Nat.reduceEqDiff, Nat.reduceLT, Nat.reduceLeDiff, ↓reduceIte, eq_self, true_implies, false_implies, ite_true, ite_false, if_true, if_false, ne_eq, e1, e2, e5, e6, eds, xf32]
      simp [ground, scal]

theorem rprim_spec (F : FM p e m g E fs) (hb : H[b]? = some (.cells (m.map nv) el op r)) :
    FN Try.prog 34 [fldv p e b e c] H (fun v H' => v = nv g ∧ H' = H) := by
  have hb2 := fun (Y : AH) => get_old (L := Y) hb
  have hq := F.q
  have hq2 := F.q2
  have hg := F.exs.2.2.2
  have hg0 := F.g_pos
  have h1 := F.ord_g
  refine FN.gc0 (FN.of_compZ mixed xf34_ok (Nat.le_of_ble_eq_true rfl) ?_)
  simp (disch := (first | omega | (simp only [List.length_map]; omega) | (simp only [List.length_map, List.length_set, List.length_replicate, List.length_append, List.length_cons, List.length_nil] <;> omega) | (simp only [all_nv]; done) | rfl)) only [↓stPre, stOwn, stNat, stList, stProp, Nat.reduceEqDiff, Nat.reduceLT, Nat.reduceLeDiff, ↓reduceIte, eq_self, true_implies, false_implies, ite_true, ite_false, if_true, if_false, ne_eq, xf34]
  refine LZ.nat (g - 1) (fun k s H' => s.env 1 = .pointer (some ⟨H.length, 0, none⟩) ∧ s.env 3 = nv (k + 1) ∧ s.ds = [] ∧ H' = H ++ [.cells [nv p, nv e, .slice (some ⟨b, 0, none⟩) e c] 26 none false]) ?_ ?_ ?_
  · simp (disch := (first | omega | (simp only [List.length_map]; omega) | (simp only [List.length_map, List.length_set, List.length_replicate, List.length_append, List.length_cons, List.length_nil] <;> omega) | (simp only [all_nv]; done) | rfl)) only [↓stPre, stOwn, stNat, stList, stProp, Nat.reduceEqDiff, Nat.reduceLT, Nat.reduceLeDiff, ↓reduceIte, eq_self, true_implies, false_implies, ite_true, ite_false, if_true, if_false, ne_eq]
  · rintro k s H1 hk ⟨e1, e3, eds, rfl⟩
    have hne := F.ord_lt (k + 1) (by omega) (by omega)
    simp (disch := (first | omega | (simp only [List.length_map]; omega) | (simp only [List.length_map, List.length_set, List.length_replicate, List.length_append, List.length_cons, List.length_nil] <;> omega) | (simp only [all_nv]; done) | rfl)) only [↓stPre, stOwn, stNat, stList, stProp, Nat.reduceEqDiff, Nat.reduceLT, Nat.reduceLeDiff, ↓reduceIte, eq_self, true_implies, false_implies, ite_true, ite_false, if_true, if_false, ne_eq, e1, e3, eds]
    refine FZ.use (rorder_spec F (hb2 _) (show k + 1 < p ^ e by omega)) ?_
    simp (disch := (first | omega | (simp only [List.length_map]; omega) | (simp only [List.length_map, List.length_set, List.length_replicate, List.length_append, List.length_cons, List.length_nil] <;> omega) | (simp only [all_nv]; done) | rfl)) only [↓stPre, stOwn, stNat, stList, stProp, Nat.reduceEqDiff, Nat.reduceLT, Nat.reduceLeDiff, ↓reduceIte, eq_self, true_implies, false_implies, ite_true, ite_false, if_true, if_false, ne_eq, e1, e3, eds]
    refine FZ.use (rsize_spec F.p2 F.q) ?_
    simp (disch := (first | omega | (simp only [List.length_map]; omega) | (simp only [List.length_map, List.length_set, List.length_replicate, List.length_append, List.length_cons, List.length_nil] <;> omega) | (simp only [all_nv]; done) | rfl)) only [↓stPre, stOwn, stNat, stList, stProp, Nat.reduceEqDiff, Nat.reduceLT, Nat.reduceLeDiff, ↓reduceIte, eq_self, true_implies, false_implies, ite_true, ite_false, if_true, if_false, ne_eq, e1, e3, eds, hne]
  · rintro s H1 ⟨e1, e3, eds, rfl⟩
    have hg1 : g - 1 + 1 = g := by omega
    rw [hg1] at e3
    simp (disch := (first | omega | (simp only [List.length_map]; omega) | (simp only [List.length_map, List.length_set, List.length_replicate, List.length_append, List.length_cons, List.length_nil] <;> omega) | (simp only [all_nv]; done) | rfl)) only [↓stPre, stOwn, stNat, stList, stProp, Nat.reduceEqDiff, Nat.reduceLT, Nat.reduceLeDiff, ↓reduceIte, eq_self, true_implies, false_implies, ite_true, ite_false, if_true, if_false, ne_eq, e1, e3, eds]
    refine FZ.use (rorder_spec F (hb2 _) hg) ?_
    simp (disch := (first | omega | (simp only [List.length_map]; omega) | (simp only [List.length_map, List.length_set, List.length_replicate, List.length_append, List.length_cons, List.length_nil] <;> omega) | (simp only [all_nv]; done) | rfl)) only [↓stPre, stOwn, stNat, stList, stProp, Nat.reduceEqDiff, Nat.reduceLT, Nat.reduceLeDiff, ↓reduceIte, eq_self, true_implies, false_implies, ite_true, ite_false, if_true, if_false, ne_eq, e1, e3, eds]
    refine FZ.use (rsize_spec F.p2 F.q) ?_
    simp (disch := (first | omega | (simp only [List.length_map]; omega) | (simp only [List.length_map, List.length_set, List.length_replicate, List.length_append, List.length_cons, List.length_nil] <;> omega) | (simp only [all_nv]; done) | rfl)) only [↓stPre, stOwn, stNat, stList, stProp, Nat.reduceEqDiff, Nat.reduceLT, Nat.reduceLeDiff, ↓reduceIte, eq_self, true_implies, false_implies, ite_true, ite_false, if_true, if_false, ne_eq, e1, e3, eds, h1, xf34]
    simp [ground, scal]

theorem powZ_nat (F : FM p e m g E fs) (n : Nat) (hx : x < p ^ e) : powZ p e m x (n : Int) = (pw p e m x n, 0) := by
  have hq2 := F.q2
  unfold powZ
  by_cases hn : n = 0
  · subst hn; rfl
  · rw [if_neg (by omega)]
    by_cases h0 : x = 0
    · subst h0
      rw [if_pos rfl, if_neg (by omega)]
      obtain ⟨k, rfl⟩ : ∃ k, n = k + 1 := ⟨n - 1, by omega⟩
      rw [pw, mul_zeroF F.toFd _ _ (.inl rfl)]
    · rw [if_neg h0]
      have : ((n : Int) % ((p ^ e : Nat) - 1 : Int)).toNat = n % (p ^ e - 1) := by
        have h1 : ((p ^ e : Nat) - 1 : Int) = ((p ^ e - 1 : Nat) : Int) := by omega
        rw [h1, ← Int.natCast_emod]
        exact Int.toNat_natCast _
      rw [this, F.powF _ _ hx, ← F.pw_mod x hx h0]
theorem rtrace_spec (F : FM p e m g E fs) (hb : H[b]? = some (.cells (m.map nv) el op r)) (hx : x < p ^ e) :
    FN Try.prog 36 [fldv p e b e c, nv x] H (fun v H' => v = nv (trF p e m x) ∧ H' = H) := by
  have hp := F.hp
  have he6 := F.e6
  have hq := F.q
  have hq2 := F.q2
  have hb2 := fun (Y : AH) => get_old (L := Y) hb
  have hs : ∀ k, (trS p e m x k).1 < p ^ e ∧ (trS p e m x k).2 < p ^ e := by
    intro k
    induction k with
    | zero => exact ⟨by show 0 < p ^ e; omega, hx⟩
    | succ k ih =>
      refine ⟨addF_lt hp, ?_⟩
      show powF p e m (trS p e m x k).2 p < p ^ e
      rw [F.powF _ _ ih.2]
      exact F.pw_lt _ _
  refine FN.gc0 (FN.of_compZ mixed xf36_ok (Nat.le_of_ble_eq_true rfl) ?_)
  simp (disch := (first | omega | (simp only [List.length_map]; omega) | (simp only [List.length_map, List.length_set, List.length_replicate, List.length_append, List.length_cons, List.length_nil] <;> omega) | (simp only [all_nv]; done) | rfl)) only [↓stPre, stOwn, stNat, stList, stProp, Nat.reduceEqDiff, Nat.reduceLT, Nat.reduceLeDiff, ↓reduceIte, eq_self, true_implies, false_implies, ite_true, ite_false, if_true, if_false, ne_eq, xf36]
  refine LZ.nat e (fun k s H' => s.env 2 = .pointer (some ⟨H.length, 0, none⟩) ∧ s.env 5 = nv (trS p e m x k).1 ∧ s.env 6 = nv (trS p e m x k).2 ∧ s.env 7 = nv k ∧ s.ds = [] ∧
     H' = H ++ [.cells [nv p, nv e, .slice (some ⟨b, 0, none⟩) e c] 26 none false]) ?_ ?_ ?_
  · simp (disch := (first | omega | (simp only [List.length_map]; omega) | (simp only [List.length_map, List.length_set, List.length_replicate, List.length_append, List.length_cons, List.length_nil] <;> omega) | (simp only [all_nv]; done) | rfl)) only [↓stPre, stOwn, stNat, stList, stProp, Nat.reduceEqDiff, Nat.reduceLT, Nat.reduceLeDiff, ↓reduceIte, eq_self, true_implies, false_implies, ite_true, ite_false, if_true, if_false, ne_eq]
    simp [trS]
  · rintro k s H1 hk ⟨e2, e5, e6, e7, eds, rfl⟩
    obtain ⟨h1, h2⟩ := hs k
    have hz : powZ p e m (trS p e m x k).2 (p : Int) = (powF p e m (trS p e m x k).2 p, 0) := by
      rw [F.powF _ _ h2]; exact powZ_nat F p h2
    simp (disch := (first | omega | (simp only [List.length_map]; omega) | (simp only [List.length_map, List.length_set, List.length_replicate, List.length_append, List.length_cons, List.length_nil] <;> omega) | (simp only [all_nv]; done) | rfl)) only [↓stPre, stOwn, stNat, stList, stProp, Nat.reduceEqDiff, Nat.reduceLT, Nat.reduceLeDiff, ↓reduceIte, eq_self, true_implies, false_implies, ite_true, ite_false, if_true, if_false, ne_eq, e2, e5, e6, e7, eds, hk]
    refine FZ.use (radd_spec F.p2 F.e1 F.e6 F.q (by omega) (by omega)) ?_
    simp (disch := (first | omega | (simp only [List.length_map]; omega) | (simp only [List.length_map, List.length_set, List.length_replicate, List.length_append, List.length_cons, List.length_nil] <;> omega) | (simp only [all_nv]; done) | rfl)) only [↓stPre, stOwn, stNat, stList, stProp, Nat.reduceEqDiff, Nat.reduceLT, Nat.reduceLeDiff, ↓reduceIte, eq_self, true_implies, false_implies, ite_true, ite_false, if_true, if_false, ne_eq, e2, e5, e6, e7, eds, hk]
    refine FZ.use (rpow30_spec F (hb2 _) h2) ?_
    rw [hz]
    simp (disch := (first | omega | (simp only [List.length_map]; omega) | (simp only [List.length_map, List.length_set, List.length_replicate, List.length_append, List.length_cons, List.length_nil] <;> omega) | (simp only [all_nv]; done) | rfl)) only [↓stPre, stOwn, stNat, stList, stProp, Nat.reduceEqDiff, Nat.reduceLT, Nat.reduceLeDiff, ↓reduceIte, eq_self, true_implies, false_implies, ite_true, ite_false, if_true, if_false, ne_eq, e2, e5, e6, e7, eds, hk]
    simp [trS]
  · rintro s H1 ⟨e2, e5, e6, e7, eds, rfl⟩
    simp (disch := (first | omega | (simp only [List.length_map]; omega) | (simp only [List.length_map, List.length_set, List.length_replicate, List.length_append, List.length_cons, List.length_nil] <;> omega) | (simp only [all_nv]; done) | rfl)) only [↓stPre, stOwn, stNat, stList, stProp, Nat.reduceEqDiff, Nat.reduceLT, Nat.reduceLeDiff, ↓reduceIte, eq_self, true_implies, false_implies, ite_true, ite_false, if_true, if_false, ne_eq, e2, e5, e6, e7, eds, xf36]
    simp [ground, scal, trF]
theorem rsubM (hp : 2 ≤ p) (he : 1 ≤ e) (he6 : e ≤ 6) (hq : p ^ e ≤ 64) {y n : Nat} (hx : x < 1000) (hy : y < 1000) : FN Try.prog 22 [fldv p e b n c, nv x, nv y] H (fun v H' => v = nv (subF p e x y) ∧ H' = H) := by
  have h := rsub_spec (b := b) (n := n) (c := c) (H := H) hp he he6 hq hx hy
  rwa [rsub_eq (by omega)] at h
theorem rnegM (hp : 2 ≤ p) (he : 1 ≤ e) (he6 : e ≤ 6) (hq : p ^ e ≤ 64) {n : Nat} (hx : x < 1000) : FN Try.prog 26 [fldv p e b n c, nv x] H (fun v H' => v = nv (subF p e 0 x) ∧ H' = H) := by
  have h := rneg_spec (b := b) (n := n) (c := c) (H := H) hp he he6 hq hx
  rwa [neg_eq (by omega)] at h
end
end Go.Sim
