/- Part of the proof: FieldA, FieldB, FieldC, FieldD, FieldE, FieldF, FieldG, FieldH, SimX, FieldI, FieldO. -/
import Derived.Test.YtaepmmdbhikjlaaSimVToSimST
import Derived.Test.YtaepmmdbhikjlaaZzXf
import Derived.KernelRfl
set_option linter.unusedSimpArgs false
namespace Go.Sim
open Go Go.Proofs

theorem tmod_mod {n p : Int} (hp : 0 < p) : (n.tmod p + p).tmod p = n % p := by
  have h1 := Int.tmod_lt_of_pos n hp
  have h2 := Int.lt_tmod_of_pos n hp
  rw [Int.tmod_eq_emod_of_nonneg (by omega), Int.add_emod_right, Int.tmod_def, Int.sub_mul_emod_self_left]

theorem mod_spec {n p : Int} {H : AH} (hp : 0 < p) (hp2 : p ≤ 1000) : FN Try.prog 53 [.int .i64 n, .int .i64 p] H (fun v H' => v = .int .i64 (n % p) ∧ H' = H) := by
  refine FN.of_compZ mixed xf53_ok (Nat.le_of_ble_eq_true rfl) ?_
  have h1 := Int.tmod_lt_of_pos n hp
  have h2 : -p < n.tmod p := by have := Int.lt_tmod_of_pos n hp; omega
  simp (disch := (first | omega | (simp only [List.length_map]; omega) | (simp only [List.length_map, List.length_set, List.length_replicate, List.length_append, List.length_cons, List.length_nil] <;> omega) | (simp only [all_nv]; done) | rfl)) only [↓stPre, stOwn, stInt, stList, stProp, Nat.reduceEqDiff, Nat.reduceLT, Nat.reduceLeDiff, ↓reduceIte, eq_self, true_implies, false_implies, ite_true, ite_false, if_true, if_false, ne_eq, xf53]
  rw [tmod_mod hp]

def digs (p : Nat) : Nat → Nat → List Nat
  | _, 0 => []
  | a, k + 1 => a % p :: digs p (a / p) k
theorem digs_length (p : Nat) : ∀ (k a : Nat), (digs p a k).length = k
  | 0, _ => rfl
  | k + 1, a => by simp [digs, digs_length p k]
theorem digs_succ (p : Nat) : ∀ (k a : Nat), digs p a (k + 1) = digs p a k ++ [a / p ^ k % p]
  | 0, a => by simp [digs]
  | k + 1, a => by
    rw [digs, digs_succ p k, digs]
    simp [Nat.div_div_eq_div_mul, Nat.pow_succ, Nat.mul_comm]
theorem set_fill {d : List Nat} {k n x : Nat} (hd : d.length = k) (hk : k < n) : (d ++ List.replicate (n - k) 0).set k x = d ++ [x] ++ List.replicate (n - (k + 1)) 0 := by
  obtain ⟨m, hm⟩ : ∃ m, n - k = m + 1 := ⟨n - k - 1, by omega⟩
  rw [List.set_append_right _ _ (by omega), hd, Nat.sub_self, hm, show n - (k + 1) = m by omega, List.replicate_succ]
  simp

theorem split_spec {p a : Nat} {H : AH} (hp : 1 < p) (hp2 : p ≤ 1000) (ha : a < 1000000) : FN Try.prog 44 [nv p, nv a] H (fun v H' => v = .agg ((digs p a 12).map nv).toArray ∧ H' = H) := by
  refine FN.gc0 (FN.of_compZ mixed xf44_ok (Nat.le_of_ble_eq_true rfl) ?_)
  simp (disch := (first | omega | (simp only [List.length_map]; omega) | (simp only [List.length_map, List.length_set, List.length_replicate, List.length_append, List.length_cons, List.length_nil] <;> omega) | (simp only [all_nv]; done) | rfl)) only [↓stPre, stOwn, stNat, stList, stProp, Nat.reduceEqDiff, Nat.reduceLT, Nat.reduceLeDiff, ↓reduceIte, eq_self, true_implies, false_implies, ite_true, ite_false, if_true, if_false, ne_eq, xf44]
  refine LZ.nat 12 (fun k s H' => s.env 0 = nv p ∧ s.env 1 = nv (a / p ^ k) ∧ s.env 4 = .pointer (some ⟨H.length, 0, none⟩) ∧ s.env 5 = .pointer (some ⟨H.length + 1, 0, none⟩) ∧ s.env 7 = nv k ∧ s.ds = [] ∧
     H' = H ++ [.cells ((List.replicate 12 0).map nv) 55 none false, .cells ((digs p a k ++ List.replicate (12 - k) 0).map nv) 55 none false]) ?_ ?_ ?_
  · simp (disch := (first | omega | (simp only [List.length_map]; omega) | (simp only [List.length_map, List.length_set, List.length_replicate, List.length_append, List.length_cons, List.length_nil] <;> omega) | (simp only [all_nv]; done) | rfl)) only [↓stPre, stOwn, stNat, stList, stProp, Nat.reduceEqDiff, Nat.reduceLT, Nat.reduceLeDiff, ↓reduceIte, eq_self, true_implies, false_implies, ite_true, ite_false, if_true, if_false, ne_eq]
    simp
    rfl
  · rintro k s H1 hk ⟨e0, e1, e4, e5, e7, eds, rfl⟩
    have hak : a / p ^ k < 1000000 := Nat.lt_of_le_of_lt (Nat.div_le_self _ _) ha
    have hl : (digs p a k ++ List.replicate (12 - k) 0).length = 12 := by simp [digs_length]; omega
    simp (disch := (first | omega | (simp only [List.length_map]; omega) | (simp only [List.length_map, List.length_set, List.length_replicate, List.length_append, List.length_cons, List.length_nil] <;> omega) | (simp only [all_nv]; done) | rfl)) only [↓stPre, stOwn, stNat, stList, stProp, Nat.reduceEqDiff, Nat.reduceLT, Nat.reduceLeDiff, ↓reduceIte, eq_self, true_implies, false_implies, ite_true, ite_false, if_true, if_false, ne_eq, e0, e1, e4, e5, e7, eds, hk]
    rw [set_fill (digs_length _ _ _) hk, Nat.div_div_eq_div_mul, Nat.pow_succ, digs_succ]
    exact ⟨rfl, rfl⟩
  · rintro s H1 ⟨e0, e1, e4, e5, e7, eds, rfl⟩
    have hl : (digs p a 12 ++ List.replicate (12 - 12) 0).length = 12 := by simp [digs_length]
    simp (disch := (first | omega | (simp only [List.length_map]; omega) | (simp only [List.length_map, List.length_set, List.length_replicate, List.length_append, List.length_cons, List.length_nil] <;> omega) | (simp only [all_nv]; done) | rfl)) only [↓stPre, stOwn, stNat, stList, stProp, Nat.reduceEqDiff, Nat.reduceLT, Nat.reduceLeDiff, ↓reduceIte, eq_self, true_implies, false_implies, ite_true, ite_false, if_true, if_false, ne_eq, e0, e1, e4, e5, e7, eds, xf44]
    simp [ground, scal]

/-- A field's value. -/
abbrev fldv (p e : Nat) (b n c : Nat) : Value := .agg [nv p, nv e, .slice (some ⟨b, 0, none⟩) n c].toArray

theorem pow_fit {p e k : Nat} (hp : 2 ≤ p) (hk : k < e) (hq : p ^ e ≤ 64) : p ^ k ≤ 64 / p := by
  rw [Nat.le_div_iff_mul_le (by omega), ← Nat.pow_succ]
  exact Nat.le_trans (Nat.pow_le_pow_right (by omega) hk) hq
theorem pow_le64 {p e k : Nat} (hp : 2 ≤ p) (hk : k ≤ e) (hq : p ^ e ≤ 64) : p ^ k ≤ 64 := Nat.le_trans (Nat.pow_le_pow_right (by omega) hk) hq

theorem sound_spec {p e b n c : Nat} {H : AH} (hp : 2 ≤ p) (he : 1 ≤ e) (he6 : e ≤ 6) (hn : n = e) (hq : p ^ e ≤ 64) : FN Try.prog 50 [fldv p e b n c] H (fun v H' => v = .bool true ∧ H' = H) := by
  refine FN.gc0 (FN.of_compZ mixed xf50_ok (Nat.le_of_ble_eq_true rfl) ?_)
  have n1 : ¬ p < 2 := by omega
  have n2 : ¬ e < 1 := by omega
  have n3 : ¬ 6 < e := by omega
  simp (disch := (first | omega | (simp only [List.length_map]; omega) | (simp only [List.length_map, List.length_set, List.length_replicate, List.length_append, List.length_cons, List.length_nil] <;> omega) | (simp only [all_nv]; done) | rfl)) only [↓stPre, stOwn, stNat, stList, stProp, Nat.reduceEqDiff, Nat.reduceLT, Nat.reduceLeDiff, ↓reduceIte, eq_self, true_implies, false_implies, ite_true, ite_false, if_true, if_false, ne_eq, xf50, n1, n2, n3, hn]
  refine LZ.nat e (fun k s H' => s.env 1 = .pointer (some ⟨H.length, 0, none⟩) ∧ s.env 3 = nv (p ^ k) ∧ s.env 26 = nv e ∧ s.env 27 = nv k ∧ s.ds = [] ∧
     H' = H ++ [.cells [nv p, nv e, .slice (some ⟨b, 0, none⟩) e c] 26 none false]) ?_ ?_ ?_
  · simp (disch := (first | omega | (simp only [List.length_map]; omega) | (simp only [List.length_map, List.length_set, List.length_replicate, List.length_append, List.length_cons, List.length_nil] <;> omega) | (simp only [all_nv]; done) | rfl)) only [↓stPre, stOwn, stNat, stList, stProp, Nat.reduceEqDiff, Nat.reduceLT, Nat.reduceLeDiff, ↓reduceIte, eq_self, true_implies, false_implies, ite_true, ite_false, if_true, if_false, ne_eq]
    simp
  · rintro k s H1 hk ⟨e1, e3, e26, e27, eds, rfl⟩
    have h1 : ¬ 64 / p < p ^ k := by have := pow_fit hp hk hq; omega
    have h2 : p ^ k * p ≤ 64 := by rw [← Nat.pow_succ]; exact pow_le64 hp hk hq
    simp (disch := (first | omega | (simp only [List.length_map]; omega) | (simp only [List.length_map, List.length_set, List.length_replicate, List.length_append, List.length_cons, List.length_nil] <;> omega) | (simp only [all_nv]; done) | rfl)) only [↓stPre, stOwn, stNat, stList, stProp, Nat.reduceEqDiff, Nat.reduceLT, Nat.reduceLeDiff, ↓reduceIte, eq_self, true_implies, false_implies, ite_true, ite_false, if_true, if_false, ne_eq, e1, e3, e26, e27, eds, hk, h1]
    simp [Nat.pow_succ]
  · rintro s H1 ⟨e1, e3, e26, e27, eds, rfl⟩
    simp (disch := (first | omega | (simp only [List.length_map]; omega) | (simp only [List.length_map, List.length_set, List.length_replicate, List.length_append, List.length_cons, List.length_nil] <;> omega) | (simp only [all_nv]; done) | rfl)) only [↓stPre, stOwn, stNat, stList, stProp, Nat.reduceEqDiff, Nat.reduceLT, Nat.reduceLeDiff, ↓reduceIte, eq_self, true_implies, false_implies, ite_true, ite_false, if_true, if_false, ne_eq, e1, e3, e26, e27, eds, xf50]
    simp [ground, scal]

/-- A number by its digits. -/
def num (p : Nat) : List Nat → Nat
  | [] => 0
  | d :: l => d + p * num p l
theorem num_lt {p : Nat} (hp : 1 ≤ p) : ∀ (l : List Nat), (∀ d ∈ l, d < p) → num p l < p ^ l.length
  | [], _ => by simp [num]
  | d :: l, h => by
    have h1 := num_lt hp l (fun x hx => h x (by simp [hx]))
    have h2 := h d (by simp)
    simp only [num, List.length_cons, Nat.pow_succ]
    have : p * (num p l + 1) ≤ p * p ^ l.length := Nat.mul_le_mul_left p h1
    rw [Nat.mul_add, Nat.mul_one] at this
    rw [Nat.mul_comm (p ^ l.length)]
    omega
theorem drop_cons_getD {l : List Nat} {k : Nat} (h : k < l.length) : l.drop k = l.getD k 0 :: l.drop (k + 1) := by
  rw [List.drop_eq_getElem_cons h, List.getD_eq_getElem?_getD, List.getElem?_eq_getElem h]; rfl

theorem join_spec {p e b n c : Nat} {d : List Nat} {H : AH} (hp : 2 ≤ p) (he6 : e ≤ 6) (hq : p ^ e ≤ 64) (hd : d.length = 12) (hdp : ∀ x ∈ d.take e, x < p) :
    FN Try.prog 54 [fldv p e b n c, .agg (d.map nv).toArray] H (fun v H' => v = nv (num p (d.take e)) ∧ H' = H) := by
  refine FN.gc0 (FN.of_compZ mixed xf54_ok (Nat.le_of_ble_eq_true rfl) ?_)
  simp (disch := (first | omega | (simp only [List.length_map]; omega) | (simp only [List.length_map, List.length_set, List.length_replicate, List.length_append, List.length_cons, List.length_nil] <;> omega) | (simp only [all_nv]; done) | rfl)) only [↓stPre, stOwn, stInt, stList, stProp, Nat.reduceEqDiff, Nat.reduceLT, Nat.reduceLeDiff, ↓reduceIte, eq_self, true_implies, false_implies, ite_true, ite_false, if_true, if_false, ne_eq, xf54]
  refine LZ.nat e (fun k s H' => s.env 2 = .pointer (some ⟨H.length, 0, none⟩) ∧ s.env 3 = .pointer (some ⟨H.length + 1, 0, none⟩) ∧ s.env 5 = nv (num p ((d.take e).drop (e - k))) ∧ s.env 6 = .int .i64 ((e : Int) - 1 - k) ∧ s.ds = [] ∧
     H' = H ++ [.cells [nv p, nv e, .slice (some ⟨b, 0, none⟩) n c] 26 none false, .cells (d.map nv) 55 none false]) ?_ ?_ ?_
  · simp (disch := (first | omega | (simp only [List.length_map]; omega) | (simp only [List.length_map, List.length_set, List.length_replicate, List.length_append, List.length_cons, List.length_nil] <;> omega) | (simp only [all_nv]; done) | rfl)) only [↓stPre, stOwn, stInt, stList, stProp, Nat.reduceEqDiff, Nat.reduceLT, Nat.reduceLeDiff, ↓reduceIte, eq_self, true_implies, false_implies, ite_true, ite_false, if_true, if_false, ne_eq]
    have : (d.take e).drop e = [] := by apply List.drop_eq_nil_of_le; simp; omega
    simp [this, num]
  · rintro k s H1 hk ⟨e2, e3, e5, e6, eds, rfl⟩
    have hi : ((e : Int) - 1 - k) = ((e - 1 - k : Nat) : Int) := by omega
    rw [hi] at e6
    have hlen : (d.take e).length = e := by simp; omega
    have hcons := drop_cons_getD (l := d.take e) (k := e - 1 - k) (by omega)
    rw [show e - 1 - k + 1 = e - k by omega] at hcons
    have hn := num_lt (p := p) (by omega) ((d.take e).drop (e - 1 - k)) (fun x hx => hdp x (List.mem_of_mem_drop hx))
    have hpw : p ^ ((d.take e).drop (e - 1 - k)).length ≤ 64 := by
      refine pow_le64 hp ?_ hq
      simp; omega
    rw [hcons] at hpw hn
    rw [num] at hn
    have hgd : (d.take e).getD (e - 1 - k) 0 = d.getD (e - 1 - k) 0 := by
      simp only [List.getD_eq_getElem?_getD, List.getElem?_take]
      rw [if_pos (by omega)]
    rw [hgd] at hn hcons hpw
    have hc := Nat.mul_comm (num p ((d.take e).drop (e - k))) p
    generalize hA : num p ((d.take e).drop (e - k)) = A at *
    have h1 : A * p < 1000 := by omega
    have h2 : A * p + d.getD (e - 1 - k) 0 < 1000 := by omega
    have h0 : (0 : Int) ≤ ((e - 1 - k : Nat) : Int) := by omega
    simp (disch := (first | omega | (simp only [List.length_map]; omega) | (simp only [List.length_map, List.length_set, List.length_replicate, List.length_append, List.length_cons, List.length_nil] <;> omega) | (simp only [all_nv]; done) | rfl)) only [↓stPre, stOwn, stNat, stList, stProp, Nat.reduceEqDiff, Nat.reduceLT, Nat.reduceLeDiff, ↓reduceIte, eq_self, true_implies, false_implies, ite_true, ite_false, if_true, if_false, ne_eq, e2, e3, e5, e6, eds, h1, h2]
    simp (disch := (first | omega | (simp only [List.length_map]; omega) | (simp only [List.length_map, List.length_set, List.length_replicate, List.length_append, List.length_cons, List.length_nil] <;> omega) | (simp only [all_nv]; done) | rfl)) only [↓stPre, stOwn, stInt, stList, stProp, Nat.reduceEqDiff, Nat.reduceLT, Nat.reduceLeDiff, ↓reduceIte, eq_self, true_implies, false_implies, ite_true, ite_false, if_true, if_false, ne_eq, e2, e3, e5, e6, eds]
    rw [show e - (k + 1) = e - 1 - k by omega, hcons, num, hA]
    refine ⟨?_, ?_⟩
    · rw [hc, Nat.add_comm]
    · congr 1; omega
  · rintro s H1 ⟨e2, e3, e5, e6, eds, rfl⟩
    have hneg : ¬ ((0 : Nat) : Int) ≤ (e : Int) - 1 - e := by omega
    simp (disch := (first | omega | (simp only [List.length_map]; omega) | (simp only [List.length_map, List.length_set, List.length_replicate, List.length_append, List.length_cons, List.length_nil] <;> omega) | (simp only [all_nv]; done) | rfl)) only [↓stPre, stOwn, stInt, stList, stProp, Nat.reduceEqDiff, Nat.reduceLT, Nat.reduceLeDiff, ↓reduceIte, eq_self, true_implies, false_implies, ite_true, ite_false, if_true, if_false, ne_eq, e2, e3, e5, e6, eds, xf54, hneg]
    simp [ground, scal]
end Go.Sim

set_option linter.unusedSimpArgs false
namespace Go.Sim
open Go Go.Proofs

theorem digits_spec {p e a : Nat} {H : AH} (hp : 2 ≤ p) (hp2 : p ≤ 1000) (he6 : e ≤ 12) (ha : a < 1000000) :
    FN Try.prog 47 [nv p, nv e, nv a] H (fun v H' => H' = H ++ [.cells ((digs p a e).map nv) 3 (if e = 0 then none else some 1) false] ∧ v = .slice (some ⟨H.length, 0, none⟩) e e) := by
  refine FN.mono (FN.gc1 (R := fun v x => v = .slice (some ⟨H.length, 0, none⟩) e e ∧ x = .cells ((digs p a e).map nv) 3 (if e = 0 then none else some 1) false) (FN.of_compZ mixed xf47_ok (Nat.le_of_ble_eq_true rfl) ?_)) ?_
  · simp (disch := (first | omega | (simp only [List.length_map]; omega) | (simp only [List.length_map, List.length_set, List.length_replicate, List.length_append, List.length_cons, List.length_nil] <;> omega) | (simp only [all_nv]; done) | rfl)) only [↓stPre, stOwn, stNat, stList, stProp, Nat.reduceEqDiff, Nat.reduceLT, Nat.reduceLeDiff, ↓reduceIte, eq_self, true_implies, false_implies, ite_true, ite_false, if_true, if_false, ne_eq, xf47, xfill]
    refine LZ.nat e (fun k s H' => s.env 0 = nv p ∧ s.env 1 = nv e ∧ s.env 2 = nv (a / p ^ k) ∧ s.env 8 = nv k ∧ s.ds = [] ∧
      ∃ b, s.env 7 = .slice (some ⟨b, 0, none⟩) k k ∧ H.length ≤ b ∧ H'[b]? = some (.cells ((digs p a k).map nv) 3 (if k = 0 then none else some 1) false) ∧ Keep H.length H H') ?_ ?_ ?_
    · simp (disch := (first | omega | (simp only [List.length_map]; omega) | (simp only [List.length_map, List.length_set, List.length_replicate, List.length_append, List.length_cons, List.length_nil] <;> omega) | (simp only [all_nv]; done) | rfl)) only [↓stPre, stOwn, stNat, stList, stProp, Nat.reduceEqDiff, Nat.reduceLT, Nat.reduceLeDiff, ↓reduceIte, eq_self, true_implies, false_implies, ite_true, ite_false, if_true, if_false, ne_eq]
      exact ⟨by simp, H.length, rfl, Nat.le_refl _, by rw [get_new0]; rfl, Keep.app (Nat.le_refl _) _⟩
    · rintro k s H1 hk ⟨e0, e1, e2, e8, eds, b, e7, hb, hb1, hkeep⟩
      have hak : a / p ^ k < 1000000 := Nat.lt_of_le_of_lt (Nat.div_le_self _ _) ha
      simp (disch := (first | omega | (simp only [List.length_map]; omega) | (simp only [List.length_map, List.length_set, List.length_replicate, List.length_append, List.length_cons, List.length_nil] <;> omega) | (simp only [all_nv]; done) | rfl)) only [↓stPre, stOwn, stNat, stList, stProp, Nat.reduceEqDiff, Nat.reduceLT, Nat.reduceLeDiff, ↓reduceIte, eq_self, true_implies, false_implies, ite_true, ite_false, if_true, if_false, ne_eq, e0, e1, e2, e8, e7, eds, hk, xfill, putL]
      obtain ⟨H2, e, hl, hk2⟩ := app_nv (H := H1 ++ [.cells [nv (a / p ^ k % p)] 3 none false]) (e := 3) (bytes := 8) (b := b) (b2 := H1.length) (o2 := 0) (n := k) (m := 1) (c2 := 1) (l := digs p a k) (l2 := [a / p ^ k % p])
        (get_old hb1) (digs_length _ _ _).symm (by split <;> simp) get_new0 rfl rfl (by omega) (by simp) (by omega) (by omega)
      rw [e]
      simp (disch := (first | omega | (simp only [List.length_map]; omega) | (simp only [List.length_map, List.length_set, List.length_replicate, List.length_append, List.length_cons, List.length_nil] <;> omega) | (simp only [all_nv]; done) | rfl)) only [↓stPre, stOwn, stNat, stList, stProp, Nat.reduceEqDiff, Nat.reduceLT, Nat.reduceLeDiff, ↓reduceIte, eq_self, true_implies, false_implies, ite_true, ite_false, if_true, if_false, ne_eq, e0, e1, e2, e8, e7, eds, hk]
      have hl' : H2.length = H1.length + 1 := by simpa using hl
      rw [Nat.div_div_eq_div_mul, ← Nat.pow_succ]
      refine ⟨rfl, H1.length + 1, rfl, by have := hkeep.1; omega, ?_, hkeep.step hb hl hk2⟩
      rw [← hl', get_new0, digs_succ]; rfl
    · rintro s H1 ⟨e0, e1, e2, e8, eds, b, e7, hb, hb1, hkeep⟩
      simp (disch := (first | omega | (simp only [List.length_map]; omega) | (simp only [List.length_map, List.length_set, List.length_replicate, List.length_append, List.length_cons, List.length_nil] <;> omega) | (simp only [all_nv]; done) | rfl)) only [↓stPre, stOwn, stNat, stList, stProp, Nat.reduceEqDiff, Nat.reduceLT, Nat.reduceLeDiff, ↓reduceIte, eq_self, true_implies, false_implies, ite_true, ite_false, if_true, if_false, ne_eq, e0, e1, e2, e8, e7, eds, xf47]
      exact gc1_nv hb hb1 hkeep rfl
  · rintro v H' ⟨x, rfl, rfl, rfl⟩
    exact ⟨rfl, rfl⟩
end Go.Sim

set_option linter.unusedSimpArgs false
namespace Go.Sim
open Go Go.Proofs

theorem mod_specN {n p : Nat} {H : AH} (hp : 0 < p) (hp2 : p ≤ 1000) : FN Try.prog 53 [nv n, nv p] H (fun v H' => v = nv (n % p) ∧ H' = H) := by
  have := mod_spec (n := (n : Int)) (p := (p : Int)) (H := H) (by omega) (by omega)
  exact this

theorem mix_getD {Z X : List Nat} {k : Nat} (hk : k < X.length) (hz : Z.length = X.length) : (Z.take k ++ X.drop k).getD k 0 = X.getD k 0 := by
  simp only [List.getD_eq_getElem?_getD]
  rw [List.getElem?_append_right (by simp; omega), List.getElem?_drop]
  congr 2
  simp; omega
theorem mix_set {Z X : List Nat} {k : Nat} (hk : k < X.length) (hz : Z.length = X.length) : (Z.take k ++ X.drop k).set k (Z.getD k 0) = Z.take (k + 1) ++ X.drop (k + 1) := by
  have hl : (Z.take k).length = k := by simp; omega
  rw [List.set_append_right _ _ (by omega), hl, Nat.sub_self, List.drop_eq_getElem_cons hk, List.set_cons_zero, List.take_add_one, List.append_assoc]
  congr 1
  rw [List.getD_eq_getElem?_getD, List.getElem?_eq_getElem (by omega)]
  simp
theorem mix_length {Z X : List Nat} {k : Nat} (hk : k ≤ X.length) (hz : Z.length = X.length) : (Z.take k ++ X.drop k).length = X.length := by simp; omega
theorem digs_take (p : Nat) : ∀ (n a k : Nat), k ≤ n → (digs p a n).take k = digs p a k
  | _, _, 0, _ => by simp [digs]
  | 0, _, k + 1, h => by omega
  | n + 1, a, k + 1, h => by
    simp only [digs, List.take_succ_cons]
    rw [digs_take p n (a / p) k (by omega)]
theorem digs_lt {p : Nat} (hp : 0 < p) : ∀ (k a : Nat), ∀ d ∈ digs p a k, d < p
  | 0, _, d, h => by simp [digs] at h
  | k + 1, a, d, h => by
    simp only [digs, List.mem_cons] at h
    rcases h with rfl | h
    · exact Nat.mod_lt _ hp
    · exact digs_lt hp k _ d h

def addL (p : Nat) (x y : List Nat) : List Nat := List.zipWith (fun a b => (a + b) % p) x y
def addF (p e a b : Nat) : Nat := num p (addL p (digs p a e) (digs p b e))

theorem getD_lt {l : List Nat} {p k : Nat} (hp : 0 < p) (h : ∀ d ∈ l, d < p) : l.getD k 0 < p := by
  rw [List.getD_eq_getElem?_getD]
  cases hk : l[k]? with
  | none => simpa using hp
  | some x => exact h x (List.mem_of_getElem? hk)

def subL (p : Nat) (x y : List Nat) : List Nat := List.zipWith (fun a b => (a + p - b) % p) x y
def subF (p e a b : Nat) : Nat := num p (subL p (digs p a e) (digs p b e))
theorem sub_modN {a b p : Nat} {H : AH} (hb : b < p) (hp : 0 < p) (hp2 : p ≤ 1000) : FN Try.prog 53 [.int .i64 ((a : Int) - b), nv p] H (fun v H' => v = nv ((a + p - b) % p) ∧ H' = H) := by
  have := mod_spec (n := ((a : Int) - b)) (p := (p : Int)) (H := H) (by omega) (by omega)
  have e : ((a : Int) - b) % (p : Int) = (((a + p - b) % p : Nat) : Int) := by
    have h1 : ((a : Int) - b) % (p : Int) = ((a : Int) - b + p) % (p : Int) := by simp
    rw [h1]
    have h2 : ((a : Int) - b + p) = ((a + p - b : Nat) : Int) := by omega
    rw [h2]; rfl
  rw [e] at this
  exact this

theorem add_spec {p e b n c x y : Nat} {H : AH} (hp : 2 ≤ p) (he : 1 ≤ e) (he6 : e ≤ 6) (hn : n = e) (hq : p ^ e ≤ 64) (hx : x < 1000) (hy : y < 1000) :
    FN Try.prog 19 [fldv p e b n c, nv x, nv y] H (fun v H' => v = nv (addF p e x y) ∧ H' = H) := by
  have hp64 : p ≤ 64 := by have := pow_le64 (k := 1) hp he hq; simpa using this
  refine FN.gc0 (FN.of_compZ mixed xf19_ok (Nat.le_of_ble_eq_true rfl) ?_)
  simp (disch := (first | omega | (simp only [List.length_map]; omega) | (simp only [List.length_map, List.length_set, List.length_replicate, List.length_append, List.length_cons, List.length_nil] <;> omega) | (simp only [all_nv]; done) | rfl)) only [↓stPre, stOwn, stNat, stList, stProp, Nat.reduceEqDiff, Nat.reduceLT, Nat.reduceLeDiff, ↓reduceIte, eq_self, true_implies, false_implies, ite_true, ite_false, if_true, if_false, ne_eq, xf19]
  refine FZ.use (sound_spec hp he he6 hn hq) ?_
  simp (disch := (first | omega | (simp only [List.length_map]; omega) | (simp only [List.length_map, List.length_set, List.length_replicate, List.length_append, List.length_cons, List.length_nil] <;> omega) | (simp only [all_nv]; done) | rfl)) only [↓stPre, stOwn, stNat, stList, stProp, Nat.reduceEqDiff, Nat.reduceLT, Nat.reduceLeDiff, ↓reduceIte, eq_self, true_implies, false_implies, ite_true, ite_false, if_true, if_false, ne_eq]
  refine FZ.use (split_spec (by omega) (by omega) (by omega)) ?_
  simp (disch := (first | omega | (simp only [List.length_map]; omega) | (simp only [List.length_map, List.length_set, List.length_replicate, List.length_append, List.length_cons, List.length_nil] <;> omega) | (simp only [all_nv]; done) | rfl)) only [↓stPre, stOwn, stNat, stList, stProp, Nat.reduceEqDiff, Nat.reduceLT, Nat.reduceLeDiff, ↓reduceIte, eq_self, true_implies, false_implies, ite_true, ite_false, if_true, if_false, ne_eq]
  refine FZ.use (split_spec (by omega) (by omega) (by omega)) ?_
  have l1 : (digs p x 12).length = 12 := digs_length _ _ _
  have l2 : (digs p y 12).length = 12 := digs_length _ _ _
  simp (disch := (first | omega | (simp only [List.length_map]; omega) | (simp only [List.length_map, List.length_set, List.length_replicate, List.length_append, List.length_cons, List.length_nil] <;> omega) | (simp only [all_nv]; done) | rfl)) only [↓stPre, stOwn, stNat, stList, stProp, Nat.reduceEqDiff, Nat.reduceLT, Nat.reduceLeDiff, ↓reduceIte, eq_self, true_implies, false_implies, ite_true, ite_false, if_true, if_false, ne_eq]
  generalize hZ : addL p (digs p x 12) (digs p y 12) = Z
  have lZ : Z.length = 12 := by rw [← hZ]; simp [addL, digs_length]
  have hZg : ∀ k, k < 12 → Z.getD k 0 = ((digs p x 12).getD k 0 + (digs p y 12).getD k 0) % p := by
    intro k hk
    rw [← hZ]
    simp only [addL, List.getD_eq_getElem?_getD, List.getElem?_zipWith]
    rw [List.getElem?_eq_getElem (by omega), List.getElem?_eq_getElem (by omega)]
    rfl
  refine LZ.nat e (fun k s H' => s.env 3 = .pointer (some ⟨H.length, 0, none⟩) ∧ s.env 7 = .pointer (some ⟨H.length + 1, 0, none⟩) ∧ s.env 8 = .pointer (some ⟨H.length + 2, 0, none⟩) ∧ s.env 22 = nv e ∧ s.env 23 = nv k ∧ s.ds = [] ∧
     H' = H ++ [.cells [nv p, nv e, .slice (some ⟨b, 0, none⟩) n c] 26 none false, .cells ((Z.take k ++ (digs p x 12).drop k).map nv) 55 none false, .cells ((digs p y 12).map nv) 55 none false]) ?_ ?_ ?_
  · simp (disch := (first | omega | (simp only [List.length_map]; omega) | (simp only [List.length_map, List.length_set, List.length_replicate, List.length_append, List.length_cons, List.length_nil] <;> omega) | (simp only [all_nv]; done) | rfl)) only [↓stPre, stOwn, stNat, stList, stProp, Nat.reduceEqDiff, Nat.reduceLT, Nat.reduceLeDiff, ↓reduceIte, eq_self, true_implies, false_implies, ite_true, ite_false, if_true, if_false, ne_eq]
    simp
  · rintro k s H1 hk ⟨e3, e7, e8, e22, e23, eds, rfl⟩
    have hml := mix_length (Z := Z) (X := digs p x 12) (k := k) (by omega) (by omega)
    rw [l1] at hml
    have hmg := mix_getD (Z := Z) (X := digs p x 12) (k := k) (by omega) (by omega)
    have g1 := getD_lt (k := k) (by omega) (digs_lt (p := p) (by omega) 12 x)
    have g2 := getD_lt (k := k) (by omega) (digs_lt (p := p) (by omega) 12 y)
    simp (disch := (first | omega | (simp only [List.length_map]; omega) | (simp only [List.length_map, List.length_set, List.length_replicate, List.length_append, List.length_cons, List.length_nil] <;> omega) | (simp only [all_nv]; done) | rfl)) only [↓stPre, stOwn, stNat, stList, stProp, Nat.reduceEqDiff, Nat.reduceLT, Nat.reduceLeDiff, ↓reduceIte, eq_self, true_implies, false_implies, ite_true, ite_false, if_true, if_false, ne_eq, e3, e7, e8, e22, e23, eds, hk, hmg]
    refine FZ.use (mod_specN (by omega) (by omega)) ?_
    simp (disch := (first | omega | (simp only [List.length_map]; omega) | (simp only [List.length_map, List.length_set, List.length_replicate, List.length_append, List.length_cons, List.length_nil] <;> omega) | (simp only [all_nv]; done) | rfl)) only [↓stPre, stOwn, stNat, stList, stProp, Nat.reduceEqDiff, Nat.reduceLT, Nat.reduceLeDiff, ↓reduceIte, eq_self, true_implies, false_implies, ite_true, ite_false, if_true, if_false, ne_eq, e3, e7, e8, e22, e23, eds, hk, hmg]
    rw [← hZg k (by omega), mix_set (by omega) (by omega)]
  · rintro s H1 ⟨e3, e7, e8, e22, e23, eds, rfl⟩
    have hml := mix_length (Z := Z) (X := digs p x 12) (k := e) (by omega) (by omega)
    rw [l1] at hml
    have htk : (Z.take e ++ (digs p x 12).drop e).take e = Z.take e := by
      rw [List.take_append_of_le_length (by simp; omega), List.take_take, Nat.min_self]
    simp (disch := (first | omega | (simp only [List.length_map]; omega) | (simp only [List.length_map, List.length_set, List.length_replicate, List.length_append, List.length_cons, List.length_nil] <;> omega) | (simp only [all_nv]; done) | rfl)) only [↓stPre, stOwn, stNat, stList, stProp, Nat.reduceEqDiff, Nat.reduceLT, Nat.reduceLeDiff, ↓reduceIte, eq_self, true_implies, false_implies, ite_true, ite_false, if_true, if_false, ne_eq, e3, e7, e8, e22, e23, eds]
    refine FZ.use (join_spec hp he6 hq hml ?_) ?_
    · rw [htk]
      intro z hz
      have := List.mem_of_mem_take hz
      rw [← hZ] at this
      simp only [addL] at this
      obtain ⟨i, hi, rfl⟩ := List.getElem_of_mem this
      simp only [List.getElem_zipWith]
      exact Nat.mod_lt _ (by omega)
    · simp (disch := (first | omega | (simp only [List.length_map]; omega) | (simp only [List.length_map, List.length_set, List.length_replicate, List.length_append, List.length_cons, List.length_nil] <;> omega) | (simp only [all_nv]; done) | rfl)) only [↓stPre, stOwn, stNat, stList, stProp, Nat.reduceEqDiff, Nat.reduceLT, Nat.reduceLeDiff, ↓reduceIte, eq_self, true_implies, false_implies, ite_true, ite_false, if_true, if_false, ne_eq, eds, xf19]
      rw [htk]
      have : Z.take e = addL p (digs p x e) (digs p y e) := by
        rw [← hZ]
        simp only [addL, List.take_zipWith]
        rw [digs_take _ _ _ _ (by omega), digs_take _ _ _ _ (by omega)]
      rw [this]
      simp [addF, ground, scal]

theorem sub_spec {p e b n c x y : Nat} {H : AH} (hp : 2 ≤ p) (he : 1 ≤ e) (he6 : e ≤ 6) (hn : n = e) (hq : p ^ e ≤ 64) (hx : x < 1000) (hy : y < 1000) :
    FN Try.prog 21 [fldv p e b n c, nv x, nv y] H (fun v H' => v = nv (subF p e x y) ∧ H' = H) := by
  have hp64 : p ≤ 64 := by have := pow_le64 (k := 1) hp he hq; simpa using this
  refine FN.gc0 (FN.of_compZ mixed xf21_ok (Nat.le_of_ble_eq_true rfl) ?_)
  simp (disch := (first | omega | (simp only [List.length_map]; omega) | (simp only [List.length_map, List.length_set, List.length_replicate, List.length_append, List.length_cons, List.length_nil] <;> omega) | (simp only [all_nv]; done) | rfl)) only [↓stPre, stOwn, stNat, stList, stProp, Nat.reduceEqDiff, Nat.reduceLT, Nat.reduceLeDiff, ↓reduceIte, eq_self, true_implies, false_implies, ite_true, ite_false, if_true, if_false, ne_eq, xf21]
  refine FZ.use (sound_spec hp he he6 hn hq) ?_
  simp (disch := (first | omega | (simp only [List.length_map]; omega) | (simp only [List.length_map, List.length_set, List.length_replicate, List.length_append, List.length_cons, List.length_nil] <;> omega) | (simp only [all_nv]; done) | rfl)) only [↓stPre, stOwn, stNat, stList, stProp, Nat.reduceEqDiff, Nat.reduceLT, Nat.reduceLeDiff, ↓reduceIte, eq_self, true_implies, false_implies, ite_true, ite_false, if_true, if_false, ne_eq]
  refine FZ.use (split_spec (by omega) (by omega) (by omega)) ?_
  simp (disch := (first | omega | (simp only [List.length_map]; omega) | (simp only [List.length_map, List.length_set, List.length_replicate, List.length_append, List.length_cons, List.length_nil] <;> omega) | (simp only [all_nv]; done) | rfl)) only [↓stPre, stOwn, stNat, stList, stProp, Nat.reduceEqDiff, Nat.reduceLT, Nat.reduceLeDiff, ↓reduceIte, eq_self, true_implies, false_implies, ite_true, ite_false, if_true, if_false, ne_eq]
  refine FZ.use (split_spec (by omega) (by omega) (by omega)) ?_
  have l1 : (digs p x 12).length = 12 := digs_length _ _ _
  have l2 : (digs p y 12).length = 12 := digs_length _ _ _
  simp (disch := (first | omega | (simp only [List.length_map]; omega) | (simp only [List.length_map, List.length_set, List.length_replicate, List.length_append, List.length_cons, List.length_nil] <;> omega) | (simp only [all_nv]; done) | rfl)) only [↓stPre, stOwn, stNat, stList, stProp, Nat.reduceEqDiff, Nat.reduceLT, Nat.reduceLeDiff, ↓reduceIte, eq_self, true_implies, false_implies, ite_true, ite_false, if_true, if_false, ne_eq]
  generalize hZ : subL p (digs p x 12) (digs p y 12) = Z
  have lZ : Z.length = 12 := by rw [← hZ]; simp [subL, digs_length]
  have hZg : ∀ k, k < 12 → Z.getD k 0 = ((digs p x 12).getD k 0 + p - (digs p y 12).getD k 0) % p := by
    intro k hk
    rw [← hZ]
    simp only [subL, List.getD_eq_getElem?_getD, List.getElem?_zipWith]
    rw [List.getElem?_eq_getElem (by omega), List.getElem?_eq_getElem (by omega)]
    rfl
  refine LZ.nat e (fun k s H' => s.env 3 = .pointer (some ⟨H.length, 0, none⟩) ∧ s.env 7 = .pointer (some ⟨H.length + 1, 0, none⟩) ∧ s.env 8 = .pointer (some ⟨H.length + 2, 0, none⟩) ∧ s.env 22 = nv e ∧ s.env 23 = nv k ∧ s.ds = [] ∧
     H' = H ++ [.cells [nv p, nv e, .slice (some ⟨b, 0, none⟩) n c] 26 none false, .cells ((Z.take k ++ (digs p x 12).drop k).map nv) 55 none false, .cells ((digs p y 12).map nv) 55 none false]) ?_ ?_ ?_
  · simp (disch := (first | omega | (simp only [List.length_map]; omega) | (simp only [List.length_map, List.length_set, List.length_replicate, List.length_append, List.length_cons, List.length_nil] <;> omega) | (simp only [all_nv]; done) | rfl)) only [↓stPre, stOwn, stNat, stList, stProp, Nat.reduceEqDiff, Nat.reduceLT, Nat.reduceLeDiff, ↓reduceIte, eq_self, true_implies, false_implies, ite_true, ite_false, if_true, if_false, ne_eq]
    simp
  · rintro k s H1 hk ⟨e3, e7, e8, e22, e23, eds, rfl⟩
    have hml := mix_length (Z := Z) (X := digs p x 12) (k := k) (by omega) (by omega)
    rw [l1] at hml
    have hmg := mix_getD (Z := Z) (X := digs p x 12) (k := k) (by omega) (by omega)
    have g1 := getD_lt (k := k) (by omega) (digs_lt (p := p) (by omega) 12 x)
    have g2 := getD_lt (k := k) (by omega) (digs_lt (p := p) (by omega) 12 y)
    simp (disch := (first | omega | (simp only [List.length_map]; omega) | (simp only [List.length_map, List.length_set, List.length_replicate, List.length_append, List.length_cons, List.length_nil] <;> omega) | (simp only [all_nv]; done) | rfl)) only [↓stPre, stOwn, stNat, stList, stProp, Nat.reduceEqDiff, Nat.reduceLT, Nat.reduceLeDiff, ↓reduceIte, eq_self, true_implies, false_implies, ite_true, ite_false, if_true, if_false, ne_eq, e3, e7, e8, e22, e23, eds, hk, hmg]
    simp (disch := (first | omega | (simp only [List.length_map]; omega) | (simp only [List.length_map, List.length_set, List.length_replicate, List.length_append, List.length_cons, List.length_nil] <;> omega) | (simp only [all_nv]; done) | rfl)) only [↓stPre, stOwn, stInt, stList, stProp, Nat.reduceEqDiff, Nat.reduceLT, Nat.reduceLeDiff, ↓reduceIte, eq_self, true_implies, false_implies, ite_true, ite_false, if_true, if_false, ne_eq, e3, e7, e8, e22, e23, eds]
    refine FZ.use (sub_modN g2 (by omega) (by omega)) ?_
    simp (disch := (first | omega | (simp only [List.length_map]; omega) | (simp only [List.length_map, List.length_set, List.length_replicate, List.length_append, List.length_cons, List.length_nil] <;> omega) | (simp only [all_nv]; done) | rfl)) only [↓stPre, stOwn, stNat, stList, stProp, Nat.reduceEqDiff, Nat.reduceLT, Nat.reduceLeDiff, ↓reduceIte, eq_self, true_implies, false_implies, ite_true, ite_false, if_true, if_false, ne_eq, e3, e7, e8, e22, e23, eds, hk, hmg]
    rw [← hZg k (by omega), mix_set (by omega) (by omega)]
  · rintro s H1 ⟨e3, e7, e8, e22, e23, eds, rfl⟩
    have hml := mix_length (Z := Z) (X := digs p x 12) (k := e) (by omega) (by omega)
    rw [l1] at hml
    have htk : (Z.take e ++ (digs p x 12).drop e).take e = Z.take e := by
      rw [List.take_append_of_le_length (by simp; omega), List.take_take, Nat.min_self]
    simp (disch := (first | omega | (simp only [List.length_map]; omega) | (simp only [List.length_map, List.length_set, List.length_replicate, List.length_append, List.length_cons, List.length_nil] <;> omega) | (simp only [all_nv]; done) | rfl)) only [↓stPre, stOwn, stNat, stList, stProp, Nat.reduceEqDiff, Nat.reduceLT, Nat.reduceLeDiff, ↓reduceIte, eq_self, true_implies, false_implies, ite_true, ite_false, if_true, if_false, ne_eq, e3, e7, e8, e22, e23, eds]
    refine FZ.use (join_spec hp he6 hq hml ?_) ?_
    · rw [htk]
      intro z hz
      have := List.mem_of_mem_take hz
      rw [← hZ] at this
      simp only [subL] at this
      obtain ⟨i, hi, rfl⟩ := List.getElem_of_mem this
      simp only [List.getElem_zipWith]
      exact Nat.mod_lt _ (by omega)
    · simp (disch := (first | omega | (simp only [List.length_map]; omega) | (simp only [List.length_map, List.length_set, List.length_replicate, List.length_append, List.length_cons, List.length_nil] <;> omega) | (simp only [all_nv]; done) | rfl)) only [↓stPre, stOwn, stNat, stList, stProp, Nat.reduceEqDiff, Nat.reduceLT, Nat.reduceLeDiff, ↓reduceIte, eq_self, true_implies, false_implies, ite_true, ite_false, if_true, if_false, ne_eq, eds, xf21]
      rw [htk]
      have : Z.take e = subL p (digs p x e) (digs p y e) := by
        rw [← hZ]
        simp only [subL, List.take_zipWith]
        rw [digs_take _ _ _ _ (by omega), digs_take _ _ _ _ (by omega)]
      rw [this]
      simp [subF, ground, scal]
theorem neg_spec {p e b n c x : Nat} {H : AH} (hp : 2 ≤ p) (he : 1 ≤ e) (he6 : e ≤ 6) (hn : n = e) (hq : p ^ e ≤ 64) (hx : x < 1000) :
    FN Try.prog 25 [fldv p e b n c, nv x] H (fun v H' => v = nv (subF p e 0 x) ∧ H' = H) := by
  refine FN.gc0 (FN.of_compZ mixed xf25_ok (Nat.le_of_ble_eq_true rfl) ?_)
  simp (disch := (first | omega | (simp only [List.length_map]; omega) | (simp only [List.length_map, List.length_set, List.length_replicate, List.length_append, List.length_cons, List.length_nil] <;> omega) | (simp only [all_nv]; done) | rfl)) only [↓stPre, stOwn, stNat, stList, stProp, Nat.reduceEqDiff, Nat.reduceLT, Nat.reduceLeDiff, ↓reduceIte, eq_self, true_implies, false_implies, ite_true, ite_false, if_true, if_false, ne_eq, xf25]
  refine FZ.use (sub_spec hp he he6 hn hq (by omega) hx) ?_
  simp (disch := (first | omega | (simp only [List.length_map]; omega) | (simp only [List.length_map, List.length_set, List.length_replicate, List.length_append, List.length_cons, List.length_nil] <;> omega) | (simp only [all_nv]; done) | rfl)) only [↓stPre, stOwn, stNat, stList, stProp, Nat.reduceEqDiff, Nat.reduceLT, Nat.reduceLeDiff, ↓reduceIte, eq_self, true_implies, false_implies, ite_true, ite_false, if_true, if_false, ne_eq, xf25]
  simp [ground, scal]

theorem size_spec {p e b n c : Nat} {H : AH} (hp : 2 ≤ p) (he : 1 ≤ e) (he6 : e ≤ 6) (hn : n = e) (hq : p ^ e ≤ 64) :
    FN Try.prog 18 [fldv p e b n c] H (fun v H' => v = nv (p ^ e) ∧ H' = H) := by
  refine FN.gc0 (FN.of_compZ mixed xf18_ok (Nat.le_of_ble_eq_true rfl) ?_)
  simp (disch := (first | omega | (simp only [List.length_map]; omega) | (simp only [List.length_map, List.length_set, List.length_replicate, List.length_append, List.length_cons, List.length_nil] <;> omega) | (simp only [all_nv]; done) | rfl)) only [↓stPre, stOwn, stNat, stList, stProp, Nat.reduceEqDiff, Nat.reduceLT, Nat.reduceLeDiff, ↓reduceIte, eq_self, true_implies, false_implies, ite_true, ite_false, if_true, if_false, ne_eq, xf18]
  refine FZ.use (sound_spec hp he he6 hn hq) ?_
  simp (disch := (first | omega | (simp only [List.length_map]; omega) | (simp only [List.length_map, List.length_set, List.length_replicate, List.length_append, List.length_cons, List.length_nil] <;> omega) | (simp only [all_nv]; done) | rfl)) only [↓stPre, stOwn, stNat, stList, stProp, Nat.reduceEqDiff, Nat.reduceLT, Nat.reduceLeDiff, ↓reduceIte, eq_self, true_implies, false_implies, ite_true, ite_false, if_true, if_false, ne_eq]
  refine LZ.nat e (fun k s H' => s.env 1 = .pointer (some ⟨H.length, 0, none⟩) ∧ s.env 3 = nv (p ^ k) ∧ s.env 8 = nv e ∧ s.env 9 = nv k ∧ s.ds = [] ∧
     H' = H ++ [.cells [nv p, nv e, .slice (some ⟨b, 0, none⟩) n c] 26 none false]) ?_ ?_ ?_
  · simp (disch := (first | omega | (simp only [List.length_map]; omega) | (simp only [List.length_map, List.length_set, List.length_replicate, List.length_append, List.length_cons, List.length_nil] <;> omega) | (simp only [all_nv]; done) | rfl)) only [↓stPre, stOwn, stNat, stList, stProp, Nat.reduceEqDiff, Nat.reduceLT, Nat.reduceLeDiff, ↓reduceIte, eq_self, true_implies, false_implies, ite_true, ite_false, if_true, if_false, ne_eq]
    simp
  · rintro k s H1 hk ⟨e1, e3, e8, e9, eds, rfl⟩
    have h2 : p ^ k * p ≤ 64 := by rw [← Nat.pow_succ]; exact pow_le64 hp hk hq
    simp (disch := (first | omega | (simp only [List.length_map]; omega) | (simp only [List.length_map, List.length_set, List.length_replicate, List.length_append, List.length_cons, List.length_nil] <;> omega) | (simp only [all_nv]; done) | rfl)) only [↓stPre, stOwn, stNat, stList, stProp, Nat.reduceEqDiff, Nat.reduceLT, Nat.reduceLeDiff, ↓reduceIte, eq_self, true_implies, false_implies, ite_true, ite_false, if_true, if_false, ne_eq, e1, e3, e8, e9, eds, hk]
    simp [Nat.pow_succ]
  · rintro s H1 ⟨e1, e3, e8, e9, eds, rfl⟩
    simp (disch := (first | omega | (simp only [List.length_map]; omega) | (simp only [List.length_map, List.length_set, List.length_replicate, List.length_append, List.length_cons, List.length_nil] <;> omega) | (simp only [all_nv]; done) | rfl)) only [↓stPre, stOwn, stNat, stList, stProp, Nat.reduceEqDiff, Nat.reduceLT, Nat.reduceLeDiff, ↓reduceIte, eq_self, true_implies, false_implies, ite_true, ite_false, if_true, if_false, ne_eq, e1, e3, e8, e9, eds, xf18]
    simp [ground, scal]
end Go.Sim

set_option linter.unusedSimpArgs false
namespace Go.Sim
open Go Go.Proofs

theorem number_spec {p b n c : Nat} {d : List Nat} {H : AH} {el : TypeId} {op : Option Nat} {r : Bool} (hb : H[b]? = some (.cells (d.map nv) el op r)) (hn : n ≤ d.length) (hp : 2 ≤ p) (hq : p ^ n ≤ 64) (hdp : ∀ x ∈ d.take n, x < p) :
    FN Try.prog 55 [nv p, .slice (some ⟨b, 0, none⟩) n c] H (fun v H' => v = nv (num p (d.take n)) ∧ H' = H) := by
  have hn64 : n < 64 := by
    have : n < 2 ^ n := Nat.lt_two_pow_self
    have h2 : 2 ^ n ≤ p ^ n := Nat.pow_le_pow_left hp n
    omega
  refine FN.gc0 (FN.of_compZ mixed xf55_ok (Nat.le_of_ble_eq_true rfl) ?_)
  simp (disch := (first | omega | (simp only [List.length_map]; omega) | (simp only [List.length_map, List.length_set, List.length_replicate, List.length_append, List.length_cons, List.length_nil] <;> omega) | (simp only [all_nv]; done) | rfl)) only [↓stPre, stOwn, stInt, stList, stProp, Nat.reduceEqDiff, Nat.reduceLT, Nat.reduceLeDiff, ↓reduceIte, eq_self, true_implies, false_implies, ite_true, ite_false, if_true, if_false, ne_eq, xf55]
  refine LZ.nat n (fun k s H' => s.env 0 = nv p ∧ s.env 1 = .slice (some ⟨b, 0, none⟩) n c ∧ s.env 5 = nv (num p ((d.take n).drop (n - k))) ∧ s.env 6 = .int .i64 ((n : Int) - 1 - k) ∧ s.ds = [] ∧ H' = H) ?_ ?_ ?_
  · simp (disch := (first | omega | (simp only [List.length_map]; omega) | (simp only [List.length_map, List.length_set, List.length_replicate, List.length_append, List.length_cons, List.length_nil] <;> omega) | (simp only [all_nv]; done) | rfl)) only [↓stPre, stOwn, stInt, stList, stProp, Nat.reduceEqDiff, Nat.reduceLT, Nat.reduceLeDiff, ↓reduceIte, eq_self, true_implies, false_implies, ite_true, ite_false, if_true, if_false, ne_eq]
    have : (d.take n).drop n = [] := by apply List.drop_eq_nil_of_le; simp; omega
    simp [this, num]
  · rintro k s H1 hk ⟨e0, e1, e5, e6, eds, rfl⟩
    have hi : ((n : Int) - 1 - k) = ((n - 1 - k : Nat) : Int) := by omega
    rw [hi] at e6
    have hlen : (d.take n).length = n := by simp; omega
    have hcons := drop_cons_getD (l := d.take n) (k := n - 1 - k) (by omega)
    rw [show n - 1 - k + 1 = n - k by omega] at hcons
    have hn := num_lt (p := p) (by omega) ((d.take n).drop (n - 1 - k)) (fun x hx => hdp x (List.mem_of_mem_drop hx))
    have hpw : p ^ ((d.take n).drop (n - 1 - k)).length ≤ 64 := by
      refine pow_le64 hp ?_ hq
      simp; omega
    rw [hcons] at hpw hn
    rw [num] at hn
    have hgd : (d.take n).getD (n - 1 - k) 0 = d.getD (n - 1 - k) 0 := by
      simp only [List.getD_eq_getElem?_getD, List.getElem?_take]
      rw [if_pos (by omega)]
    rw [hgd] at hn hcons hpw
    have hc := Nat.mul_comm (num p ((d.take n).drop (n - k))) p
    generalize hA : num p ((d.take n).drop (n - k)) = A at *
    have h1 : A * p < 1000 := by omega
    have h2 : A * p + d.getD (n - 1 - k) 0 < 1000 := by omega
    simp (disch := (first | omega | (simp only [List.length_map]; omega) | (simp only [List.length_map, List.length_set, List.length_replicate, List.length_append, List.length_cons, List.length_nil] <;> omega) | (simp only [all_nv]; done) | rfl)) only [↓stPre, stOwn, stNat, stList, stProp, Nat.reduceEqDiff, Nat.reduceLT, Nat.reduceLeDiff, ↓reduceIte, eq_self, true_implies, false_implies, ite_true, ite_false, if_true, if_false, ne_eq, e0, e1, e5, e6, eds, h1, h2, hb]
    simp (disch := (first | omega | (simp only [List.length_map]; omega) | (simp only [List.length_map, List.length_set, List.length_replicate, List.length_append, List.length_cons, List.length_nil] <;> omega) | (simp only [all_nv]; done) | rfl)) only [↓stPre, stOwn, stInt, stList, stProp, Nat.reduceEqDiff, Nat.reduceLT, Nat.reduceLeDiff, ↓reduceIte, eq_self, true_implies, false_implies, ite_true, ite_false, if_true, if_false, ne_eq, e0, e1, e5, e6, eds]
    rw [show n - (k + 1) = n - 1 - k by omega, hcons, num, hA]
    refine ⟨?_, ?_⟩
    · rw [hc, Nat.add_comm]
    · congr 1; omega
  · rintro s H1 ⟨e0, e1, e5, e6, eds, rfl⟩
    have hneg : ¬ ((0 : Nat) : Int) ≤ (n : Int) - 1 - n := by omega
    simp (disch := (first | omega | (simp only [List.length_map]; omega) | (simp only [List.length_map, List.length_set, List.length_replicate, List.length_append, List.length_cons, List.length_nil] <;> omega) | (simp only [all_nv]; done) | rfl)) only [↓stPre, stOwn, stInt, stList, stProp, Nat.reduceEqDiff, Nat.reduceLT, Nat.reduceLeDiff, ↓reduceIte, eq_self, true_implies, false_implies, ite_true, ite_false, if_true, if_false, ne_eq, e0, e1, e5, e6, eds, xf55, hneg]
    simp [ground, scal]
theorem addL_length {p : Nat} {x y : List Nat} {n : Nat} (hx : x.length = n) (hy : y.length = n) : (addL p x y).length = n := by simp [addL, hx, hy]
theorem addL_getD {p : Nat} {x y : List Nat} {n : Nat} (hx : x.length = n) (hy : y.length = n) (k : Nat) (hk : k < n) : (addL p x y).getD k 0 = (x.getD k 0 + y.getD k 0) % p := by
  simp only [addL, List.getD_eq_getElem?_getD, List.getElem?_zipWith]
  rw [List.getElem?_eq_getElem (by omega), List.getElem?_eq_getElem (by omega)]
  rfl
theorem addL_lt {p : Nat} (hp : 0 < p) {x y : List Nat} : ∀ z ∈ addL p x y, z < p := by
  intro z hz
  simp only [addL] at hz
  obtain ⟨i, hi, rfl⟩ := List.getElem_of_mem hz
  simp only [List.getElem_zipWith]
  exact Nat.mod_lt _ hp
theorem mix_all {Z X : List Nat} {k : Nat} (hk : X.length ≤ k) (hz : Z.length = X.length) : Z.take k ++ X.drop k = Z := by
  rw [List.take_of_length_le (by omega), List.drop_eq_nil_of_le hk, List.append_nil]

theorem radd_spec {p e b n c x y : Nat} {H : AH} (hp : 2 ≤ p) (he : 1 ≤ e) (he6 : e ≤ 6) (hq : p ^ e ≤ 64) (hx : x < 1000) (hy : y < 1000) :
    FN Try.prog 20 [fldv p e b n c, nv x, nv y] H (fun v H' => v = nv (addF p e x y) ∧ H' = H) := by
  have hp64 : p ≤ 64 := by have := pow_le64 (k := 1) hp he hq; simpa using this
  have he0 : e ≠ 0 := by omega
  refine FN.gc0 (FN.of_compZ mixed xf20_ok (Nat.le_of_ble_eq_true rfl) ?_)
  simp (disch := (first | omega | (simp only [List.length_map]; omega) | (simp only [List.length_map, List.length_set, List.length_replicate, List.length_append, List.length_cons, List.length_nil] <;> omega) | (simp only [all_nv]; done) | rfl)) only [↓stPre, stOwn, stNat, stList, stProp, Nat.reduceEqDiff, Nat.reduceLT, Nat.reduceLeDiff, ↓reduceIte, eq_self, true_implies, false_implies, ite_true, ite_false, if_true, if_false, ne_eq, xf20]
  refine FZ.mono (digits_spec hp (by omega) (by omega) (by omega)) ?_
  rintro _ _ ⟨rfl, rfl⟩
  simp (disch := (first | omega | (simp only [List.length_map]; omega) | (simp only [List.length_map, List.length_set, List.length_replicate, List.length_append, List.length_cons, List.length_nil] <;> omega) | (simp only [all_nv]; done) | rfl)) only [↓stPre, stOwn, stNat, stList, stProp, Nat.reduceEqDiff, Nat.reduceLT, Nat.reduceLeDiff, ↓reduceIte, eq_self, true_implies, false_implies, ite_true, ite_false, if_true, if_false, ne_eq, he0]
  refine FZ.mono (digits_spec hp (by omega) (by omega) (by omega)) ?_
  rintro _ _ ⟨rfl, rfl⟩
  have l1 : (digs p x e).length = e := digs_length _ _ _
  have l2 : (digs p y e).length = e := digs_length _ _ _
  simp (disch := (first | omega | (simp only [List.length_map]; omega) | (simp only [List.length_map, List.length_set, List.length_replicate, List.length_append, List.length_cons, List.length_nil] <;> omega) | (simp only [all_nv]; done) | rfl)) only [↓stPre, stOwn, stNat, stList, stProp, Nat.reduceEqDiff, Nat.reduceLT, Nat.reduceLeDiff, ↓reduceIte, eq_self, true_implies, false_implies, ite_true, ite_false, if_true, if_false, ne_eq, he0]
  have lZ := addL_length (p := p) l1 l2
  have hZg := addL_getD (p := p) l1 l2
  have hZl := addL_lt (p := p) (by omega) (x := digs p x e) (y := digs p y e)
  generalize hZ : addL p (digs p x e) (digs p y e) = Z at *
  refine LZ.nat e (fun k s H' => s.env 3 = .pointer (some ⟨H.length, 0, none⟩) ∧ s.env 7 = .slice (some ⟨H.length + 1, 0, none⟩) e e ∧ s.env 8 = .slice (some ⟨H.length + 2, 0, none⟩) e e ∧ s.env 9 = nv k ∧ s.ds = [] ∧
     H' = H ++ [.cells [nv p, nv e, .slice (some ⟨b, 0, none⟩) n c] 26 none false, .cells ((Z.take k ++ (digs p x e).drop k).map nv) 3 (some 1) false, .cells ((digs p y e).map nv) 3 (some 1) false]) ?_ ?_ ?_
  · simp (disch := (first | omega | (simp only [List.length_map]; omega) | (simp only [List.length_map, List.length_set, List.length_replicate, List.length_append, List.length_cons, List.length_nil] <;> omega) | (simp only [all_nv]; done) | rfl)) only [↓stPre, stOwn, stNat, stList, stProp, Nat.reduceEqDiff, Nat.reduceLT, Nat.reduceLeDiff, ↓reduceIte, eq_self, true_implies, false_implies, ite_true, ite_false, if_true, if_false, ne_eq]
    simp [he0]
  · rintro k s H1 hk ⟨e3, e7, e8, e9, eds, rfl⟩
    have hml := mix_length (Z := Z) (X := digs p x e) (k := k) (by omega) (by omega)
    rw [l1] at hml
    have hmg := mix_getD (Z := Z) (X := digs p x e) (k := k) (by omega) (by omega)
    have g1 := getD_lt (k := k) (by omega) (digs_lt (p := p) (by omega) e x)
    have g2 := getD_lt (k := k) (by omega) (digs_lt (p := p) (by omega) e y)
    simp (disch := (first | omega | (simp only [List.length_map]; omega) | (simp only [List.length_map, List.length_set, List.length_replicate, List.length_append, List.length_cons, List.length_nil] <;> omega) | (simp only [all_nv]; done) | rfl)) only [↓stPre, stOwn, stNat, stList, stProp, Nat.reduceEqDiff, Nat.reduceLT, Nat.reduceLeDiff, ↓reduceIte, eq_self, true_implies, false_implies, ite_true, ite_false, if_true, if_false, ne_eq, e3, e7, e8, e9, eds, hk, hmg]
    rw [← hZg k (by omega), mix_set (by omega) (by omega)]
  · rintro s H1 ⟨e3, e7, e8, e9, eds, rfl⟩
    rw [mix_all (by omega) (by omega)]
    simp (disch := (first | omega | (simp only [List.length_map]; omega) | (simp only [List.length_map, List.length_set, List.length_replicate, List.length_append, List.length_cons, List.length_nil] <;> omega) | (simp only [all_nv]; done) | rfl)) only [↓stPre, stOwn, stNat, stList, stProp, Nat.reduceEqDiff, Nat.reduceLT, Nat.reduceLeDiff, ↓reduceIte, eq_self, true_implies, false_implies, ite_true, ite_false, if_true, if_false, ne_eq, e3, e7, e8, e9, eds]
    refine FZ.use (number_spec (d := Z) get_new (by omega) hp hq ?_) ?_
    · intro z hz; exact hZl z (List.mem_of_mem_take hz)
    · simp (disch := (first | omega | (simp only [List.length_map]; omega) | (simp only [List.length_map, List.length_set, List.length_replicate, List.length_append, List.length_cons, List.length_nil] <;> omega) | (simp only [all_nv]; done) | rfl)) only [↓stPre, stOwn, stNat, stList, stProp, Nat.reduceEqDiff, Nat.reduceLT, Nat.reduceLeDiff, ↓reduceIte, eq_self, true_implies, false_implies, ite_true, ite_false, if_true, if_false, ne_eq, eds, xf20]
      rw [List.take_of_length_le (by omega), ← hZ]
      simp [addF, ground, scal]
def negL (p : Nat) (x : List Nat) : List Nat := x.map fun d => (p - d) % p
def negF (p e x : Nat) : Nat := num p (negL p (digs p x e))
theorem num_lt_pow {p e : Nat} {l : List Nat} (hp : 1 ≤ p) (hl : l.length = e) (h : ∀ d ∈ l, d < p) : num p l < p ^ e := by
  rw [← hl]; exact num_lt hp l h
theorem rneg_spec {p e b n c x : Nat} {H : AH} (hp : 2 ≤ p) (he : 1 ≤ e) (he6 : e ≤ 6) (hq : p ^ e ≤ 64) (hx : x < 1000) :
    FN Try.prog 26 [fldv p e b n c, nv x] H (fun v H' => v = nv (negF p e x) ∧ H' = H) := by
  have hp64 : p ≤ 64 := by have := pow_le64 (k := 1) hp he hq; simpa using this
  have he0 : e ≠ 0 := by omega
  refine FN.gc0 (FN.of_compZ mixed xf26_ok (Nat.le_of_ble_eq_true rfl) ?_)
  simp (disch := (first | omega | (simp only [List.length_map]; omega) | (simp only [List.length_map, List.length_set, List.length_replicate, List.length_append, List.length_cons, List.length_nil] <;> omega) | (simp only [all_nv]; done) | rfl)) only [↓stPre, stOwn, stNat, stList, stProp, Nat.reduceEqDiff, Nat.reduceLT, Nat.reduceLeDiff, ↓reduceIte, eq_self, true_implies, false_implies, ite_true, ite_false, if_true, if_false, ne_eq, xf26]
  refine FZ.mono (digits_spec hp (by omega) (by omega) (by omega)) ?_
  rintro _ _ ⟨rfl, rfl⟩
  have l1 : (digs p x e).length = e := digs_length _ _ _
  simp (disch := (first | omega | (simp only [List.length_map]; omega) | (simp only [List.length_map, List.length_set, List.length_replicate, List.length_append, List.length_cons, List.length_nil] <;> omega) | (simp only [all_nv]; done) | rfl)) only [↓stPre, stOwn, stNat, stList, stProp, Nat.reduceEqDiff, Nat.reduceLT, Nat.reduceLeDiff, ↓reduceIte, eq_self, true_implies, false_implies, ite_true, ite_false, if_true, if_false, ne_eq, he0]
  have lZ : (negL p (digs p x e)).length = e := by simp [negL, l1]
  have hZg : ∀ k, k < e → (negL p (digs p x e)).getD k 0 = (p - (digs p x e).getD k 0) % p := by
    intro k hk
    simp only [negL, List.getD_eq_getElem?_getD, List.getElem?_map]
    rw [List.getElem?_eq_getElem (by omega)]
    rfl
  have hZl : ∀ z ∈ negL p (digs p x e), z < p := by
    intro z hz
    simp only [negL, List.mem_map] at hz
    obtain ⟨d, _, rfl⟩ := hz
    exact Nat.mod_lt _ (by omega)
  generalize hZ : negL p (digs p x e) = Z at *
  refine LZ.nat e (fun k s H' => s.env 2 = .pointer (some ⟨H.length, 0, none⟩) ∧ s.env 5 = .slice (some ⟨H.length + 1, 0, none⟩) e e ∧ s.env 6 = nv k ∧ s.ds = [] ∧
     H' = H ++ [.cells [nv p, nv e, .slice (some ⟨b, 0, none⟩) n c] 26 none false, .cells ((Z.take k ++ (digs p x e).drop k).map nv) 3 (some 1) false]) ?_ ?_ ?_
  · simp (disch := (first | omega | (simp only [List.length_map]; omega) | (simp only [List.length_map, List.length_set, List.length_replicate, List.length_append, List.length_cons, List.length_nil] <;> omega) | (simp only [all_nv]; done) | rfl)) only [↓stPre, stOwn, stNat, stList, stProp, Nat.reduceEqDiff, Nat.reduceLT, Nat.reduceLeDiff, ↓reduceIte, eq_self, true_implies, false_implies, ite_true, ite_false, if_true, if_false, ne_eq]
    simp [he0]
  · rintro k s H1 hk ⟨e2, e5, e6, eds, rfl⟩
    have hml := mix_length (Z := Z) (X := digs p x e) (k := k) (by omega) (by omega)
    rw [l1] at hml
    have hmg := mix_getD (Z := Z) (X := digs p x e) (k := k) (by omega) (by omega)
    have g1 := getD_lt (k := k) (by omega) (digs_lt (p := p) (by omega) e x)
    simp (disch := (first | omega | (simp only [List.length_map]; omega) | (simp only [List.length_map, List.length_set, List.length_replicate, List.length_append, List.length_cons, List.length_nil] <;> omega) | (simp only [all_nv]; done) | rfl)) only [↓stPre, stOwn, stNat, stList, stProp, Nat.reduceEqDiff, Nat.reduceLT, Nat.reduceLeDiff, ↓reduceIte, eq_self, true_implies, false_implies, ite_true, ite_false, if_true, if_false, ne_eq, e2, e5, e6, eds, hk, hmg]
    rw [← hZg k (by omega), mix_set (by omega) (by omega)]
  · rintro s H1 ⟨e2, e5, e6, eds, rfl⟩
    rw [mix_all (by omega) (by omega)]
    simp (disch := (first | omega | (simp only [List.length_map]; omega) | (simp only [List.length_map, List.length_set, List.length_replicate, List.length_append, List.length_cons, List.length_nil] <;> omega) | (simp only [all_nv]; done) | rfl)) only [↓stPre, stOwn, stNat, stList, stProp, Nat.reduceEqDiff, Nat.reduceLT, Nat.reduceLeDiff, ↓reduceIte, eq_self, true_implies, false_implies, ite_true, ite_false, if_true, if_false, ne_eq, e2, e5, e6, eds]
    refine FZ.use (number_spec (d := Z) get_new (by omega) hp hq ?_) ?_
    · intro z hz; exact hZl z (List.mem_of_mem_take hz)
    · simp (disch := (first | omega | (simp only [List.length_map]; omega) | (simp only [List.length_map, List.length_set, List.length_replicate, List.length_append, List.length_cons, List.length_nil] <;> omega) | (simp only [all_nv]; done) | rfl)) only [↓stPre, stOwn, stNat, stList, stProp, Nat.reduceEqDiff, Nat.reduceLT, Nat.reduceLeDiff, ↓reduceIte, eq_self, true_implies, false_implies, ite_true, ite_false, if_true, if_false, ne_eq, eds, xf26]
      rw [List.take_of_length_le (by omega), ← hZ]
      simp [negF, ground, scal]

theorem negF_lt {p e x : Nat} (hp : 2 ≤ p) (hq : p ^ e ≤ 64) : negF p e x < 1000 := by
  have := num_lt_pow (p := p) (e := e) (l := negL p (digs p x e)) (by omega) (by simp [negL, digs_length]) (by
    intro z hz
    simp only [negL, List.mem_map] at hz
    obtain ⟨d, _, rfl⟩ := hz
    exact Nat.mod_lt _ (by omega))
  simp only [negF]
  omega

theorem rsub_spec {p e b n c x y : Nat} {H : AH} (hp : 2 ≤ p) (he : 1 ≤ e) (he6 : e ≤ 6) (hq : p ^ e ≤ 64) (hx : x < 1000) (hy : y < 1000) :
    FN Try.prog 22 [fldv p e b n c, nv x, nv y] H (fun v H' => v = nv (addF p e x (negF p e y)) ∧ H' = H) := by
  refine FN.gc0 (FN.of_compZ mixed xf22_ok (Nat.le_of_ble_eq_true rfl) ?_)
  simp (disch := (first | omega | (simp only [List.length_map]; omega) | (simp only [List.length_map, List.length_set, List.length_replicate, List.length_append, List.length_cons, List.length_nil] <;> omega) | (simp only [all_nv]; done) | rfl)) only [↓stPre, stOwn, stNat, stList, stProp, Nat.reduceEqDiff, Nat.reduceLT, Nat.reduceLeDiff, ↓reduceIte, eq_self, true_implies, false_implies, ite_true, ite_false, if_true, if_false, ne_eq, xf22]
  refine FZ.use (rneg_spec hp he he6 hq hy) ?_
  simp (disch := (first | omega | (simp only [List.length_map]; omega) | (simp only [List.length_map, List.length_set, List.length_replicate, List.length_append, List.length_cons, List.length_nil] <;> omega) | (simp only [all_nv]; done) | rfl)) only [↓stPre, stOwn, stNat, stList, stProp, Nat.reduceEqDiff, Nat.reduceLT, Nat.reduceLeDiff, ↓reduceIte, eq_self, true_implies, false_implies, ite_true, ite_false, if_true, if_false, ne_eq]
  refine FZ.use (radd_spec hp he he6 hq hx (negF_lt hp hq)) ?_
  simp (disch := (first | omega | (simp only [List.length_map]; omega) | (simp only [List.length_map, List.length_set, List.length_replicate, List.length_append, List.length_cons, List.length_nil] <;> omega) | (simp only [all_nv]; done) | rfl)) only [↓stPre, stOwn, stNat, stList, stProp, Nat.reduceEqDiff, Nat.reduceLT, Nat.reduceLeDiff, ↓reduceIte, eq_self, true_implies, false_implies, ite_true, ite_false, if_true, if_false, ne_eq, xf22]
  simp [ground, scal]
end Go.Sim

set_option linter.unusedSimpArgs false
namespace Go.Sim
open Go Go.Proofs

def restK (p c base : Nat) (m : List Nat) (out : List Nat) (k : Nat) : List Nat := out.set (base + k) ((out.getD (base + k) 0 + (p - c) * m.getD k 0) % p)
def restI (p d : Nat) (m : List Nat) (out : List Nat) (t : Nat) : List Nat := (List.range (d + 1)).foldl (restK p (out.getD (out.length - 1 - t) 0) (out.length - 1 - t - d) m) out
def restL (p d : Nat) (m out : List Nat) : List Nat := (List.range (out.length - d)).foldl (restI p d m) out

theorem restK_ok {p c base : Nat} {m out : List Nat} {k n : Nat} (hp : 0 < p) (hl : out.length = n) (h : ∀ x ∈ out, x < p) : (restK p c base m out k).length = n ∧ ∀ x ∈ restK p c base m out k, x < p := by
  refine ⟨by simp [restK, hl], fun x hx => ?_⟩
  rcases List.mem_or_eq_of_mem_set hx with h1 | rfl
  · exact h x h1
  · exact Nat.mod_lt _ hp
theorem fold_ok {α : Type} {f : List Nat → α → List Nat} {p n : Nat} (hf : ∀ out k, out.length = n → (∀ x ∈ out, x < p) → (f out k).length = n ∧ ∀ x ∈ f out k, x < p) : ∀ (l : List α) (out : List Nat), out.length = n → (∀ x ∈ out, x < p) → (l.foldl f out).length = n ∧ ∀ x ∈ l.foldl f out, x < p
  | [], out, h1, h2 => ⟨h1, h2⟩
  | a :: l, out, h1, h2 => fold_ok hf l _ (hf out a h1 h2).1 (hf out a h1 h2).2
theorem restI_ok {p d : Nat} {m out : List Nat} {t n : Nat} (hp : 0 < p) (hl : out.length = n) (h : ∀ x ∈ out, x < p) : (restI p d m out t).length = n ∧ ∀ x ∈ restI p d m out t, x < p :=
  fold_ok (fun out k h1 h2 => restK_ok hp h1 h2) _ _ hl h

theorem rest_spec {p d n c bl bm cm : Nat} {l m : List Nat} {H : AH} {e1 e2 : TypeId} {o1 o2 : Option Nat} {r1 r2 : Bool} (hl : H[bl]? = some (.cells (l.map nv) e1 o1 r1)) (hm : H[bm]? = some (.cells (m.map nv) e2 o2 r2))
    (hp : 2 ≤ p) (hp2 : p ≤ 64) (hd : 1 ≤ d) (hdn : d ≤ n) (hn : n ≤ l.length) (hn64 : n ≤ 64) (hml : d + 1 ≤ m.length) (hlp : ∀ x ∈ l, x < p) (hmp : ∀ x ∈ m, x < p) :
    FN Try.prog 57 [nv p, .slice (some ⟨bl, 0, none⟩) n c, .slice (some ⟨bm, 0, none⟩) (d + 1) cm] H
      (fun v H' => H' = H ++ [.cells ((restL p d m (l.take n)).map nv) 3 (some 1) false] ∧ v = .slice (some ⟨H.length, 0, none⟩) d n) := by
  refine FN.mono (FN.gc1 (R := fun v x => v = .slice (some ⟨H.length, 0, none⟩) d n ∧ x = .cells ((restL p d m (l.take n)).map nv) 3 (some 1) false) (FN.of_compZ mixed xf57_ok (Nat.le_of_ble_eq_true rfl) ?_)) ?_
  · have lL : (l.take n).length = n := by simp; omega
    have hLp : ∀ x ∈ l.take n, x < p := fun x hx => hlp x (List.mem_of_mem_take hx)
    simp (disch := (first | omega | (simp only [List.length_map]; omega) | (simp only [List.length_map, List.length_set, List.length_replicate, List.length_append, List.length_cons, List.length_nil] <;> omega) | (simp only [all_nv]; done) | rfl)) only [↓stPre, stOwn, stNat, stList, stProp, Nat.reduceEqDiff, Nat.reduceLT, Nat.reduceLeDiff, ↓reduceIte, eq_self, true_implies, false_implies, ite_true, ite_false, if_true, if_false, ne_eq, xf57, xfill]
    rw [app_none (n := 0) (m := n) (c2 := c) (bytes := 8) (e := 3) (l := []) (l2 := l.take n) get_new0 rfl (get_old hl) (by rw [List.drop_zero, List.map_take]) lL.symm (by omega) (by simp; omega) (by omega) (by omega)]
    simp (disch := (first | omega | (simp only [List.length_map]; omega) | (simp only [List.length_map, List.length_set, List.length_replicate, List.length_append, List.length_cons, List.length_nil] <;> omega) | (simp only [all_nv]; done) | rfl)) only [↓stPre, stOwn, stNat, stList, stProp, Nat.reduceEqDiff, Nat.reduceLT, Nat.reduceLeDiff, ↓reduceIte, eq_self, true_implies, false_implies, ite_true, ite_false, if_true, if_false, ne_eq, Nat.add_sub_cancel]
    have hR := fun k => fold_ok (f := restI p d m) (fun out k h1 h2 => restI_ok (by omega) h1 h2) (List.range k) (l.take n) lL hLp
    generalize hL : l.take n = L at *
    refine LZ.nat (n - d) (fun k s H' => s.env 0 = nv p ∧ s.env 2 = .slice (some ⟨bm, 0, none⟩) (d + 1) cm ∧ s.env 7 = .slice (some ⟨H.length + 1, 0, none⟩) n n ∧ s.env 8 = nv d ∧ s.env 9 = nv (n - 1 - k) ∧ s.ds = [] ∧
      H' = H ++ [.cells [] 3 none false, .cells (((List.range k).foldl (restI p d m) L).map nv) 3 (some 1) false]) ?_ ?_ ?_
    · simp (disch := (first | omega | (simp only [List.length_map]; omega) | (simp only [List.length_map, List.length_set, List.length_replicate, List.length_append, List.length_cons, List.length_nil] <;> omega) | (simp only [all_nv]; done) | rfl)) only [↓stPre, stOwn, stNat, stList, stProp, Nat.reduceEqDiff, Nat.reduceLT, Nat.reduceLeDiff, ↓reduceIte, eq_self, true_implies, false_implies, ite_true, ite_false, if_true, if_false, ne_eq]
      simp
    · rintro k s H1 hk ⟨e0, e2, e7, e8, e9, eds, rfl⟩
      obtain ⟨q1, q2⟩ := hR k
      generalize hO : (List.range k).foldl (restI p d m) L = O at *
      have hge : d ≤ n - 1 - k := by omega
      simp (disch := (first | omega | (simp only [List.length_map]; omega) | (simp only [List.length_map, List.length_set, List.length_replicate, List.length_append, List.length_cons, List.length_nil] <;> omega) | (simp only [all_nv]; done) | rfl)) only [↓stPre, stOwn, stNat, stList, stProp, Nat.reduceEqDiff, Nat.reduceLT, Nat.reduceLeDiff, ↓reduceIte, eq_self, true_implies, false_implies, ite_true, ite_false, if_true, if_false, ne_eq, e0, e2, e7, e8, e9, eds, hge]
      generalize hC : O.getD (n - 1 - k) 0 = C
      have hCp : C < p := by rw [← hC]; exact getD_lt (by omega) q2
      refine LZ.nat (d + 1) (fun j s H' => s.env 0 = nv p ∧ s.env 2 = .slice (some ⟨bm, 0, none⟩) (d + 1) cm ∧ s.env 7 = .slice (some ⟨H.length + 1, 0, none⟩) n n ∧ s.env 8 = nv d ∧ s.env 9 = nv (n - 1 - k) ∧ s.env 10 = nv C ∧ s.env 11 = nv j ∧ s.ds = [] ∧
        H' = H ++ [.cells [] 3 none false, .cells (((List.range j).foldl (restK p C (n - 1 - k - d) m) O).map nv) 3 (some 1) false]) ?_ ?_ ?_
      · simp (disch := (first | omega | (simp only [List.length_map]; omega) | (simp only [List.length_map, List.length_set, List.length_replicate, List.length_append, List.length_cons, List.length_nil] <;> omega) | (simp only [all_nv]; done) | rfl)) only [↓stPre, stOwn, stNat, stList, stProp, Nat.reduceEqDiff, Nat.reduceLT, Nat.reduceLeDiff, ↓reduceIte, eq_self, true_implies, false_implies, ite_true, ite_false, if_true, if_false, ne_eq, e0, e2, e7, e8, e9, eds]
        simp
      · rintro j s H1 hj ⟨f0, f2, f7, f8, f9, f10, f11, fds, rfl⟩
        have hj' : j ≤ d := by omega
        obtain ⟨w1, w2⟩ := fold_ok (f := restK p C (n - 1 - k - d) m) (p := p) (n := n) (fun out k h1 h2 => restK_ok (by omega) h1 h2) (List.range j) O q1 q2
        rw [List.range_succ, List.foldl_append]
        generalize hW : (List.range j).foldl (restK p C (n - 1 - k - d) m) O = V at *
        have g1 := getD_lt (k := n - 1 - k - d + j) (by omega) w2
        have g3 := getD_lt (k := j) (by omega) hmp
        have hmul : (p - C) * m.getD j 0 ≤ 64 * 64 := Nat.mul_le_mul (by omega) (by omega)
        have hm2 := fun (Y : AH) => get_old (L := Y) hm
        simp (disch := (first | omega | (simp only [List.length_map]; omega) | (simp only [List.length_map, List.length_set, List.length_replicate, List.length_append, List.length_cons, List.length_nil] <;> omega) | (simp only [all_nv]; done) | rfl)) only [↓stPre, stOwn, stNat, stList, stProp, Nat.reduceEqDiff, Nat.reduceLT, Nat.reduceLeDiff, ↓reduceIte, eq_self, true_implies, false_implies, ite_true, ite_false, if_true, if_false, ne_eq, f0, f2, f7, f8, f9, f10, f11, fds, hj', hm2]
        simp [restK]
      · rintro s H1 ⟨f0, f2, f7, f8, f9, f10, f11, fds, rfl⟩
        have hgt : ¬ d + 1 ≤ d := by omega
        simp (disch := (first | omega | (simp only [List.length_map]; omega) | (simp only [List.length_map, List.length_set, List.length_replicate, List.length_append, List.length_cons, List.length_nil] <;> omega) | (simp only [all_nv]; done) | rfl)) only [↓stPre, stOwn, stNat, stList, stProp, Nat.reduceEqDiff, Nat.reduceLT, Nat.reduceLeDiff, ↓reduceIte, eq_self, true_implies, false_implies, ite_true, ite_false, if_true, if_false, ne_eq, f0, f2, f7, f8, f9, f10, f11, fds, hgt]
        rw [show List.range (k + 1) = List.range k ++ [k] from List.range_succ, List.foldl_append, hO]
        simp only [List.foldl_cons, List.foldl_nil, restI, q1, hC]
        rw [show n - 1 - (k + 1) = n - 1 - k - 1 by omega]
        simp
    · rintro s H1 ⟨e0, e2, e7, e8, e9, eds, rfl⟩
      have hge : ¬ d ≤ n - 1 - (n - d) := by omega
      simp (disch := (first | omega | (simp only [List.length_map]; omega) | (simp only [List.length_map, List.length_set, List.length_replicate, List.length_append, List.length_cons, List.length_nil] <;> omega) | (simp only [all_nv]; done) | rfl)) only [↓stPre, stOwn, stNat, stList, stProp, Nat.reduceEqDiff, Nat.reduceLT, Nat.reduceLeDiff, ↓reduceIte, eq_self, true_implies, false_implies, ite_true, ite_false, if_true, if_false, ne_eq, e0, e2, e7, e8, e9, eds, hge]
      have hmin : min n d = d := by omega
      simp (disch := (first | omega | (simp only [List.length_map]; omega) | (simp only [List.length_map, List.length_set, List.length_replicate, List.length_append, List.length_cons, List.length_nil] <;> omega) | (simp only [all_nv]; done) | rfl)) only [↓stPre, stOwn, stNat, stList, stProp, Nat.reduceEqDiff, Nat.reduceLT, Nat.reduceLeDiff, ↓reduceIte, eq_self, true_implies, false_implies, ite_true, ite_false, if_true, if_false, ne_eq, hmin, xp_slShi, eds, xf57]
      exact gc1_nv (b := H.length + 1) (by omega) (by rw [get_new]; simp [restL, lL]) (Keep.app (Nat.le_refl _) _) rfl
  · rintro v H' ⟨x, rfl, rfl, rfl⟩
    exact ⟨rfl, rfl⟩
end Go.Sim

set_option linter.unusedSimpArgs false
namespace Go.Sim
open Go Go.Proofs

def mulK (p : Nat) (x y : List Nat) (i : Nat) (out : List Nat) (k : Nat) : List Nat := out.set (i + k) ((out.getD (i + k) 0 + x.getD i 0 * y.getD k 0) % p)
def mulI (p e : Nat) (x y : List Nat) (out : List Nat) (i : Nat) : List Nat := (List.range e).foldl (mulK p x y i) out
def mulL (p e : Nat) (x y : List Nat) : List Nat := (List.range e).foldl (mulI p e x y) (List.replicate (2 * e) 0)
def rmulF (p e : Nat) (m : List Nat) (a b : Nat) : Nat := num p ((restL p e (m ++ [1]) (mulL p e (digs p a e) (digs p b e))).take e)

theorem mulK_ok {p i : Nat} {x y out : List Nat} {k n : Nat} (hp : 0 < p) (hl : out.length = n) (h : ∀ x ∈ out, x < p) : (mulK p x y i out k).length = n ∧ ∀ z ∈ mulK p x y i out k, z < p := by
  refine ⟨by simp [mulK, hl], fun z hz => ?_⟩
  rcases List.mem_or_eq_of_mem_set hz with h1 | rfl
  · exact h z h1
  · exact Nat.mod_lt _ hp

theorem rmul_spec {p e b c x y : Nat} {m : List Nat} {H : AH} {el : TypeId} {op : Option Nat} {r : Bool} (hb : H[b]? = some (.cells (m.map nv) el op r)) (hm : m.length = e) (hmp : ∀ z ∈ m, z < p) (hp : 2 ≤ p) (he : 1 ≤ e) (he6 : e ≤ 6) (hq : p ^ e ≤ 64) (hx : x < 1000) (hy : y < 1000) :
    FN Try.prog 24 [fldv p e b e c, nv x, nv y] H (fun v H' => v = nv (rmulF p e m x y) ∧ H' = H) := by
  have hp64 : p ≤ 64 := by have := pow_le64 (k := 1) hp he hq; simpa using this
  have he0 : e ≠ 0 := by omega
  refine FN.gc0 (FN.of_compZ mixed xf24_ok (Nat.le_of_ble_eq_true rfl) ?_)
  simp (disch := (first | omega | (simp only [List.length_map]; omega) | (simp only [List.length_map, List.length_set, List.length_replicate, List.length_append, List.length_cons, List.length_nil] <;> omega) | (simp only [all_nv]; done) | rfl)) only [↓stPre, stOwn, stNat, stList, stProp, Nat.reduceEqDiff, Nat.reduceLT, Nat.reduceLeDiff, ↓reduceIte, eq_self, true_implies, false_implies, ite_true, ite_false, if_true, if_false, ne_eq, xf24]
  refine FZ.mono (digits_spec hp (by omega) (by omega) (by omega)) ?_
  rintro _ _ ⟨rfl, rfl⟩
  simp (disch := (first | omega | (simp only [List.length_map]; omega) | (simp only [List.length_map, List.length_set, List.length_replicate, List.length_append, List.length_cons, List.length_nil] <;> omega) | (simp only [all_nv]; done) | rfl)) only [↓stPre, stOwn, stNat, stList, stProp, Nat.reduceEqDiff, Nat.reduceLT, Nat.reduceLeDiff, ↓reduceIte, eq_self, true_implies, false_implies, ite_true, ite_false, if_true, if_false, ne_eq, he0]
  refine FZ.mono (digits_spec hp (by omega) (by omega) (by omega)) ?_
  rintro _ _ ⟨rfl, rfl⟩
  have l1 : (digs p x e).length = e := digs_length _ _ _
  have l2 : (digs p y e).length = e := digs_length _ _ _
  simp (disch := (first | omega | (simp only [List.length_map]; omega) | (simp only [List.length_map, List.length_set, List.length_replicate, List.length_append, List.length_cons, List.length_nil] <;> omega) | (simp only [all_nv]; done) | rfl)) only [↓stPre, stOwn, stNat, stList, stProp, Nat.reduceEqDiff, Nat.reduceLT, Nat.reduceLeDiff, ↓reduceIte, eq_self, true_implies, false_implies, ite_true, ite_false, if_true, if_false, ne_eq, he0, xnew_makeN]
  have hx1 := digs_lt (p := p) (by omega) e x
  have hy1 := digs_lt (p := p) (by omega) e y
  generalize hX : digs p x e = X at *
  generalize hY : digs p y e = Y at *
  have hz0 : ∀ z ∈ List.replicate (2 * e) 0, z < p := by intro z hz; rw [List.mem_replicate] at hz; omega
  have hR := fun k => fold_ok (f := mulI p e X Y) (p := p) (n := 2 * e) (fun out k h1 h2 => fold_ok (fun out k h1 h2 => mulK_ok (by omega) h1 h2) _ _ h1 h2) (List.range k) (List.replicate (2 * e) 0) (by simp) hz0
  refine LZ.nat e (fun k s H' => s.env 3 = .pointer (some ⟨H.length, 0, none⟩) ∧ s.env 7 = .slice (some ⟨H.length + 1, 0, none⟩) e e ∧ s.env 8 = .slice (some ⟨H.length + 2, 0, none⟩) e e ∧ s.env 9 = .slice (some ⟨H.length + 3, 0, none⟩) (2 * e) (2 * e) ∧ s.env 10 = nv k ∧ s.ds = [] ∧
     H' = H ++ [.cells [nv p, nv e, .slice (some ⟨b, 0, none⟩) e c] 26 none false, .cells (X.map nv) 3 (some 1) false, .cells (Y.map nv) 3 (some 1) false, .cells (((List.range k).foldl (mulI p e X Y) (List.replicate (2 * e) 0)).map nv) 3 none false]) ?_ ?_ ?_
  · simp (disch := (first | omega | (simp only [List.length_map]; omega) | (simp only [List.length_map, List.length_set, List.length_replicate, List.length_append, List.length_cons, List.length_nil] <;> omega) | (simp only [all_nv]; done) | rfl)) only [↓stPre, stOwn, stNat, stList, stProp, Nat.reduceEqDiff, Nat.reduceLT, Nat.reduceLeDiff, ↓reduceIte, eq_self, true_implies, false_implies, ite_true, ite_false, if_true, if_false, ne_eq]
    simp [he0]
  · rintro i s H1 hi ⟨e3, e7, e8, e9, e10, eds, rfl⟩
    obtain ⟨q1, q2⟩ := hR i
    rw [show List.range (i + 1) = List.range i ++ [i] from List.range_succ, List.foldl_append]
    generalize hO : (List.range i).foldl (mulI p e X Y) (List.replicate (2 * e) 0) = O at *
    simp (disch := (first | omega | (simp only [List.length_map]; omega) | (simp only [List.length_map, List.length_set, List.length_replicate, List.length_append, List.length_cons, List.length_nil] <;> omega) | (simp only [all_nv]; done) | rfl)) only [↓stPre, stOwn, stNat, stList, stProp, Nat.reduceEqDiff, Nat.reduceLT, Nat.reduceLeDiff, ↓reduceIte, eq_self, true_implies, false_implies, ite_true, ite_false, if_true, if_false, ne_eq, e3, e7, e8, e9, e10, eds, hi]
    refine LZ.nat e (fun k s H' => s.env 3 = .pointer (some ⟨H.length, 0, none⟩) ∧ s.env 7 = .slice (some ⟨H.length + 1, 0, none⟩) e e ∧ s.env 8 = .slice (some ⟨H.length + 2, 0, none⟩) e e ∧ s.env 9 = .slice (some ⟨H.length + 3, 0, none⟩) (2 * e) (2 * e) ∧ s.env 10 = nv i ∧ s.env 11 = nv k ∧ s.ds = [] ∧
       H' = H ++ [.cells [nv p, nv e, .slice (some ⟨b, 0, none⟩) e c] 26 none false, .cells (X.map nv) 3 (some 1) false, .cells (Y.map nv) 3 (some 1) false, .cells (((List.range k).foldl (mulK p X Y i) O).map nv) 3 none false]) ?_ ?_ ?_
    · simp (disch := (first | omega | (simp only [List.length_map]; omega) | (simp only [List.length_map, List.length_set, List.length_replicate, List.length_append, List.length_cons, List.length_nil] <;> omega) | (simp only [all_nv]; done) | rfl)) only [↓stPre, stOwn, stNat, stList, stProp, Nat.reduceEqDiff, Nat.reduceLT, Nat.reduceLeDiff, ↓reduceIte, eq_self, true_implies, false_implies, ite_true, ite_false, if_true, if_false, ne_eq, e3, e7, e8, e9, e10, eds]
      simp
    · rintro k s H1 hk ⟨f3, f7, f8, f9, f10, f11, fds, rfl⟩
      obtain ⟨w1, w2⟩ := fold_ok (f := mulK p X Y i) (p := p) (n := 2 * e) (fun out k h1 h2 => mulK_ok (by omega) h1 h2) (List.range k) O q1 q2
      rw [show List.range (k + 1) = List.range k ++ [k] from List.range_succ, List.foldl_append]
      generalize hW : (List.range k).foldl (mulK p X Y i) O = V at *
      have g1 := getD_lt (k := i + k) (by omega) w2
      have g2 := getD_lt (k := i) (by omega) hx1
      have g3 := getD_lt (k := k) (by omega) hy1
      have hmul : X.getD i 0 * Y.getD k 0 ≤ 64 * 64 := Nat.mul_le_mul (by omega) (by omega)
      simp (disch := (first | omega | (simp only [List.length_map]; omega) | (simp only [List.length_map, List.length_set, List.length_replicate, List.length_append, List.length_cons, List.length_nil] <;> omega) | (simp only [all_nv]; done) | rfl)) only [↓stPre, stOwn, stNat, stList, stProp, Nat.reduceEqDiff, Nat.reduceLT, Nat.reduceLeDiff, ↓reduceIte, eq_self, true_implies, false_implies, ite_true, ite_false, if_true, if_false, ne_eq, f3, f7, f8, f9, f10, f11, fds, hk]
      simp [mulK]
    · rintro s H1 ⟨f3, f7, f8, f9, f10, f11, fds, rfl⟩
      simp (disch := (first | omega | (simp only [List.length_map]; omega) | (simp only [List.length_map, List.length_set, List.length_replicate, List.length_append, List.length_cons, List.length_nil] <;> omega) | (simp only [all_nv]; done) | rfl)) only [↓stPre, stOwn, stNat, stList, stProp, Nat.reduceEqDiff, Nat.reduceLT, Nat.reduceLeDiff, ↓reduceIte, eq_self, true_implies, false_implies, ite_true, ite_false, if_true, if_false, ne_eq, f3, f7, f8, f9, f10, f11, fds]
      simp [mulI]
  · rintro s H1 ⟨e3, e7, e8, e9, e10, eds, rfl⟩
    obtain ⟨q1, q2⟩ := hR e
    generalize hO : (List.range e).foldl (mulI p e X Y) (List.replicate (2 * e) 0) = O at *
    have hb2 := fun (Y : AH) => get_old (L := Y) hb
    simp (disch := (first | omega | (simp only [List.length_map]; omega) | (simp only [List.length_map, List.length_set, List.length_replicate, List.length_append, List.length_cons, List.length_nil] <;> omega) | (simp only [all_nv]; done) | rfl)) only [↓stPre, stOwn, stNat, stList, stProp, Nat.reduceEqDiff, Nat.reduceLT, Nat.reduceLeDiff, ↓reduceIte, eq_self, true_implies, false_implies, ite_true, ite_false, if_true, if_false, ne_eq, e3, e7, e8, e9, e10, eds, xfill, putL]
    rw [app_none (n := 0) (m := e) (c2 := c) (bytes := 8) (e := 3) (l := []) (l2 := m) (get_new.trans rfl) rfl (hb2 _) (by rw [List.drop_zero, List.take_of_length_le (by simp; omega)]) hm.symm (by omega) (by simp; omega) (by omega) (by omega)]
    simp (disch := (first | omega | (simp only [List.length_map]; omega) | (simp only [List.length_map, List.length_set, List.length_replicate, List.length_append, List.length_cons, List.length_nil] <;> omega) | (simp only [all_nv]; done) | rfl)) only [↓stPre, stOwn, stNat, stList, stProp, Nat.reduceEqDiff, Nat.reduceLT, Nat.reduceLeDiff, ↓reduceIte, eq_self, true_implies, false_implies, ite_true, ite_false, if_true, if_false, ne_eq, e3, e7, e8, e9, e10, eds]
    rw [app_open (n := e) (m := 1) (c2 := 1) (bytes := 8) (e := 3) (l := m) (l2 := [1]) (get_new.trans rfl) hm.symm (get_new.trans rfl) rfl rfl (by omega) (by simp) (by omega) (by omega)]
    simp (disch := (first | omega | (simp only [List.length_map]; omega) | (simp only [List.length_map, List.length_set, List.length_replicate, List.length_append, List.length_cons, List.length_nil] <;> omega) | (simp only [all_nv]; done) | rfl)) only [↓stPre, stOwn, stNat, stList, stProp, Nat.reduceEqDiff, Nat.reduceLT, Nat.reduceLeDiff, ↓reduceIte, eq_self, true_implies, false_implies, ite_true, ite_false, if_true, if_false, ne_eq, e3, e7, e8, e9, e10, eds]
    refine FZ.mono (rest_spec (d := e) (n := 2 * e) (l := O) (m := m ++ [1]) (get_new.trans rfl) (get_new.trans rfl) hp hp64 he (by omega) (by omega) (by omega) (by simp; omega) q2 ?_) ?_
    · intro z hz
      rw [List.mem_append] at hz
      rcases hz with h | h
      · exact hmp z h
      · rw [List.mem_singleton] at h; omega
    rintro _ _ ⟨rfl, rfl⟩
    simp (disch := (first | omega | (simp only [List.length_map]; omega) | (simp only [List.length_map, List.length_set, List.length_replicate, List.length_append, List.length_cons, List.length_nil] <;> omega) | (simp only [all_nv]; done) | rfl)) only [↓stPre, stOwn, stNat, stList, stProp, Nat.reduceEqDiff, Nat.reduceLT, Nat.reduceLeDiff, ↓reduceIte, eq_self, true_implies, false_implies, ite_true, ite_false, if_true, if_false, ne_eq, e3, e7, e8, e9, e10, eds]
    rw [List.take_of_length_le (by omega)]
    obtain ⟨w1, w2⟩ := fold_ok (f := restI p e (m ++ [1])) (p := p) (n := 2 * e) (fun out k h1 h2 => restI_ok (by omega) h1 h2) (List.range (O.length - e)) O q1 q2
    have hrl : restL p e (m ++ [1]) O = (List.range (O.length - e)).foldl (restI p e (m ++ [1])) O := rfl
    rw [← hrl] at w1 w2
    refine FZ.use (number_spec (d := restL p e (m ++ [1]) O) (get_new.trans rfl) (by omega) hp hq (fun z hz => w2 z (List.mem_of_mem_take hz))) ?_
    simp (disch := (first | omega | (simp only [List.length_map]; omega) | (simp only [List.length_map, List.length_set, List.length_replicate, List.length_append, List.length_cons, List.length_nil] <;> omega) | (simp only [all_nv]; done) | rfl)) only [↓stPre, stOwn, stNat, stList, stProp, Nat.reduceEqDiff, Nat.reduceLT, Nat.reduceLeDiff, ↓reduceIte, eq_self, true_implies, false_implies, ite_true, ite_false, if_true, if_false, ne_eq, eds, xf24]
    rw [show O = mulL p e X Y from hO.symm]
    simp [rmulF, ground, scal, hX, hY]
end Go.Sim

set_option linter.unusedSimpArgs false
namespace Go.Sim
open Go Go.Proofs

theorem xress_nil {H : AH} {s : St} : xress H s [] = some (.tuple [].toArray) := by simp [xress]

theorem down_spec {p e b n c a l bf ba : Nat} {Hb0 : AH} (Ib : Nat → AH → Prop) (hp : 2 ≤ p) (hp2 : p ≤ 64) (he : 1 ≤ e) (he6 : e ≤ 6) (ha : a < 1000)
    (h0 : Ib 0 Hb0) (hlen : ∀ k Hb, Ib k Hb → Hb.length = Hb0.length) (hbf : ∀ k Hb, Ib k Hb → Hb[bf]? = some (.cells [nv p, nv e, .slice (some ⟨b, 0, none⟩) n c] 26 none false)) (hba : Hb0[ba]? = some (.cells [nv a] 3 none false))
    (hy : ∀ k Hb J, k < e → Ib k Hb → YN Try.prog l [nv ((digs p a 12).getD (e - 1 - k) 0)] (Hb ++ J) (fun v H' => v = .bool true ∧ ∃ Hb' J', H' = Hb' ++ J ++ J' ∧ Ib (k + 1) Hb')) :
    FN Try.prog 63 [.func (.yield l) #[] #[], .pointer (some ⟨bf, 0, none⟩), .pointer (some ⟨ba, 0, none⟩)] Hb0 (fun _ H' => ∃ Hb J, H' = Hb ++ J ∧ Ib e Hb) := by
  refine FN.of_compZ mixed xf63_ok (Nat.le_of_ble_eq_true rfl) ?_
  have b0 := hbf 0 _ h0
  simp (disch := (first | omega | (simp only [List.length_map]; omega) | (simp only [List.length_map, List.length_set, List.length_replicate, List.length_append, List.length_cons, List.length_nil] <;> omega) | (simp only [all_nv]; done) | rfl)) only [↓stPre, stOwn, stNat, stList, stProp, Nat.reduceEqDiff, Nat.reduceLT, Nat.reduceLeDiff, ↓reduceIte, eq_self, true_implies, false_implies, ite_true, ite_false, if_true, if_false, ne_eq, xf63, b0, hba]
  refine FZ.use (split_spec (by omega) (by omega) (by omega)) ?_
  have b1 := fun (Y : AH) => get_old (L := Y) b0
  have l1 : (digs p a 12).length = 12 := digs_length _ _ _
  simp (disch := (first | omega | (simp only [List.length_map]; omega) | (simp only [List.length_map, List.length_set, List.length_replicate, List.length_append, List.length_cons, List.length_nil] <;> omega) | (simp only [all_nv]; done) | rfl)) only [↓stPre, stOwn, stNat, stList, stProp, Nat.reduceEqDiff, Nat.reduceLT, Nat.reduceLeDiff, ↓reduceIte, eq_self, true_implies, false_implies, ite_true, ite_false, if_true, if_false, ne_eq, b1]
  refine LZ.nat e (fun k s H' => s.env 0 = .func (.yield l) #[] #[] ∧ s.env 1 = .pointer (some ⟨bf, 0, none⟩) ∧ s.env 4 = .pointer (some ⟨Hb0.length, 0, none⟩) ∧ s.env 5 = .int .i64 ((e : Int) - 1 - k) ∧ s.ds = [] ∧
     ∃ Hb J, H' = Hb ++ (.cells ((digs p a 12).map nv) 55 none false :: J) ∧ Ib k Hb) ?_ ?_ ?_
  · simp (disch := (first | omega | (simp only [List.length_map]; omega) | (simp only [List.length_map, List.length_set, List.length_replicate, List.length_append, List.length_cons, List.length_nil] <;> omega) | (simp only [all_nv]; done) | rfl)) only [↓stPre, stOwn, stInt, stList, stProp, Nat.reduceEqDiff, Nat.reduceLT, Nat.reduceLeDiff, ↓reduceIte, eq_self, true_implies, false_implies, ite_true, ite_false, if_true, if_false, ne_eq]
    refine ⟨?_, Hb0, [], rfl, h0⟩
    show Value.int .i64 _ = Value.int .i64 _
    rw [show ((e - 1 : Nat) : Int) = (e : Int) - 1 - ((0 : Nat) : Int) by omega]
  · rintro k s H1 hk ⟨e0, e1, e4, e5, eds, Hb, J, rfl, hI⟩
    have hi : ((e : Int) - 1 - k) = ((e - 1 - k : Nat) : Int) := by omega
    rw [hi] at e5
    have hL := hlen k Hb hI
    rw [← hL] at e4
    simp (disch := (first | omega | (simp only [List.length_map]; omega) | (simp only [List.length_map, List.length_set, List.length_replicate, List.length_append, List.length_cons, List.length_nil] <;> omega) | (simp only [all_nv]; done) | rfl)) only [↓stPre, stOwn, stNat, stList, stProp, Nat.reduceEqDiff, Nat.reduceLT, Nat.reduceLeDiff, ↓reduceIte, eq_self, true_implies, false_implies, ite_true, ite_false, if_true, if_false, ne_eq, e0, e1, e4, e5, eds]
    refine YN.mono (hy k Hb _ hk hI) ?_
    rintro _ _ ⟨rfl, Hb', J', rfl, hI'⟩
    simp (disch := (first | omega | (simp only [List.length_map]; omega) | (simp only [List.length_map, List.length_set, List.length_replicate, List.length_append, List.length_cons, List.length_nil] <;> omega) | (simp only [all_nv]; done) | rfl)) only [↓stPre, stOwn, stNat, stList, stProp, Nat.reduceEqDiff, Nat.reduceLT, Nat.reduceLeDiff, ↓reduceIte, eq_self, true_implies, false_implies, ite_true, ite_false, if_true, if_false, ne_eq, e0, e1, e4, e5, eds]
    simp (disch := (first | omega | (simp only [List.length_map]; omega) | (simp only [List.length_map, List.length_set, List.length_replicate, List.length_append, List.length_cons, List.length_nil] <;> omega) | (simp only [all_nv]; done) | rfl)) only [↓stPre, stOwn, stInt, stList, stProp, Nat.reduceEqDiff, Nat.reduceLT, Nat.reduceLeDiff, ↓reduceIte, eq_self, true_implies, false_implies, ite_true, ite_false, if_true, if_false, ne_eq, e0, e1, e4, e5, eds]
    rw [show ((e - 1 - k : Nat) : Int) - ((1 : Nat) : Int) = (e : Int) - 1 - ((k + 1 : Nat) : Int) by omega, hL]
    exact ⟨rfl, rfl, Hb', _, rfl, hI'⟩
  · rintro s H1 ⟨e0, e1, e4, e5, eds, Hb, J, rfl, hI⟩
    have hneg : ¬ ((0 : Nat) : Int) ≤ (e : Int) - 1 - e := by omega
    simp (disch := (first | omega | (simp only [List.length_map]; omega) | (simp only [List.length_map, List.length_set, List.length_replicate, List.length_append, List.length_cons, List.length_nil] <;> omega) | (simp only [all_nv]; done) | rfl)) only [↓stPre, stOwn, stInt, stList, stProp, Nat.reduceEqDiff, Nat.reduceLT, Nat.reduceLeDiff, ↓reduceIte, eq_self, true_implies, false_implies, ite_true, ite_false, if_true, if_false, ne_eq, e0, e1, e4, e5, eds, hneg, xf63, xress_nil]
    exact ⟨Hb, _, rfl, hI⟩
theorem xp_fn' {g : FuncId} {nf nc : Nat} {vs : List Value} (h : vs.length = nf + nc) : xpure (.fn g nf nc) vs = some (.func (.func g) (vs.take nf).toArray (vs.drop nf).toArray) := by
  simp [xpure, h]
theorem mkdown_spec {p e b n c a : Nat} {H : AH} :
    FN Try.prog 56 [fldv p e b n c, nv a] H (fun v H' => H' = H ++ [.cells [nv p, nv e, .slice (some ⟨b, 0, none⟩) n c] 26 none false, .cells [nv a] 3 none false] ∧ v = .func (.func 63) #[] #[.pointer (some ⟨H.length, 0, none⟩), .pointer (some ⟨H.length + 1, 0, none⟩)]) := by
  refine FN.of_compZ mixed xf56_ok (Nat.le_of_ble_eq_true rfl) ?_
  simp (disch := (first | omega | (simp only [List.length_map]; omega) | (simp only [List.length_map, List.length_set, List.length_replicate, List.length_append, List.length_cons, List.length_nil] <;> omega) | (simp only [all_nv]; done) | rfl)) only [↓stPre, stOwn, stNat, stList, stProp, Nat.reduceEqDiff, Nat.reduceLT, Nat.reduceLeDiff, ↓reduceIte, eq_self, true_implies, false_implies, ite_true, ite_false, if_true, if_false, ne_eq, xf56, xp_fn']
  simp
end Go.Sim

set_option linter.unusedSimpArgs false
namespace Go.Sim
open Go Go.Proofs

def shK (e : Nat) (o : List Nat) (k : Nat) : List Nat := o.set (e - 1 - k) (o.getD (e - 1 - k - 1) 0)
def mdK (p top c : Nat) (m x o : List Nat) (i : Nat) : List Nat := o.set i (((o.getD i 0 : Int) - top * m.getD i 0 + c * x.getD i 0) % p).toNat
/-- One digit of b: what there is times x, plus the digit times a. -/
def mulS (p e : Nat) (m x out : List Nat) (c : Nat) : List Nat :=
  (List.range e).foldl (mdK p (out.getD (e - 1) 0) c m x) (((List.range (e - 1)).foldl (shK e) out).set 0 0)
def mulR (p e : Nat) (m x y : List Nat) (k : Nat) : List Nat := (List.range k).foldl (fun o k => mulS p e m x o (y.getD (e - 1 - k) 0)) (List.replicate 12 0)
def mulF (p e : Nat) (m : List Nat) (a b : Nat) : Nat := num p ((mulR p e m (digs p a 12) (digs p b 12) e).take e)

theorem shK_ok {p e k n : Nat} {out : List Nat} (hp : 0 < p) (hl : out.length = n) (h : ∀ x ∈ out, x < p) : (shK e out k).length = n ∧ ∀ z ∈ shK e out k, z < p := by
  refine ⟨by simp [shK, hl], fun z hz => ?_⟩
  rcases List.mem_or_eq_of_mem_set hz with h1 | rfl
  · exact h z h1
  · exact getD_lt hp h
theorem mdK_ok {p t c k n : Nat} {m x out : List Nat} (hp : 0 < p) (hl : out.length = n) (h : ∀ x ∈ out, x < p) : (mdK p t c m x out k).length = n ∧ ∀ z ∈ mdK p t c m x out k, z < p := by
  refine ⟨by simp [mdK, hl], fun z hz => ?_⟩
  rcases List.mem_or_eq_of_mem_set hz with h1 | rfl
  · exact h z h1
  · have h1 := Int.emod_nonneg ((out.getD k 0 : Int) - t * m.getD k 0 + c * x.getD k 0) (show (p : Int) ≠ 0 by omega)
    have h2 := Int.emod_lt_of_pos ((out.getD k 0 : Int) - t * m.getD k 0 + c * x.getD k 0) (show (0 : Int) < (p : Int) by omega)
    omega
theorem sh0_ok {p e n k : Nat} {out : List Nat} (hp : 0 < p) (hl : out.length = n) (h : ∀ x ∈ out, x < p) : (((List.range k).foldl (shK e) out).set 0 0).length = n ∧ ∀ z ∈ ((List.range k).foldl (shK e) out).set 0 0, z < p := by
  obtain ⟨h1, h2⟩ := fold_ok (f := shK e) (fun out k h1 h2 => shK_ok hp h1 h2) (List.range k) out hl h
  refine ⟨by simp [h1], fun z hz => ?_⟩
  rcases List.mem_or_eq_of_mem_set hz with h3 | rfl
  · exact h2 z h3
  · exact hp
theorem mulS_ok {p e c n : Nat} {m x out : List Nat} (hp : 0 < p) (hl : out.length = n) (h : ∀ x ∈ out, x < p) : (mulS p e m x out c).length = n ∧ ∀ z ∈ mulS p e m x out c, z < p := by
  obtain ⟨h1, h2⟩ := sh0_ok (e := e) (k := e - 1) hp hl h
  exact fold_ok (fun out k h1 h2 => mdK_ok hp h1 h2) _ _ h1 h2
theorem mulR_ok {p e k : Nat} {m x y : List Nat} (hp : 0 < p) : (mulR p e m x y k).length = 12 ∧ ∀ z ∈ mulR p e m x y k, z < p :=
  fold_ok (f := fun o k => mulS p e m x o (y.getD (e - 1 - k) 0)) (fun _ _ h1 h2 => mulS_ok hp h1 h2) _ _ (by simp) (by intro z hz; rw [List.mem_replicate] at hz; omega)
theorem mul_modN {p o t a c x : Nat} {H : AH} (hp : 2 ≤ p) (hp64 : p ≤ 64) :
    FN Try.prog 53 [.int .i64 ((o : Int) - ((t * a : Nat) : Int) + ((c * x : Nat) : Int)), nv p] H (fun v H' => v = nv (((o : Int) - t * a + c * x) % p).toNat ∧ H' = H) := by
  refine FN.mono (mod_spec (by omega) (by omega)) ?_
  rintro _ _ ⟨rfl, rfl⟩
  refine ⟨?_, rfl⟩
  have h1 := Int.emod_nonneg ((o : Int) - t * a + c * x) (show (p : Int) ≠ 0 by omega)
  show Value.int .i64 _ = Value.int .i64 _
  rw [Int.toNat_of_nonneg h1]
  simp

def Ib (p e b c : Nat) (X : List Nat) (y : Nat) (m : List Nat) (H : AH) (L : ALoop) (k : Nat) (Hb : AH) : Prop :=
  Hb = H ++ [.cells [nv p, nv e, .slice (some ⟨b, 0, none⟩) e c] 26 none false, .cells (X.map nv) 55 none false, .cells ((mulR p e m X (digs p y 12) k).map nv) 55 none false, .cells [nv p, nv e, .slice (some ⟨b, 0, none⟩) e c] 26 none false, .cells [nv y] 3 none false, .defs (some []), .loop L]

theorem mul_spec {p e b c x y : Nat} {m : List Nat} {H : AH} {el : TypeId} {op : Option Nat} {r : Bool} (hb : H[b]? = some (.cells (m.map nv) el op r)) (hm : m.length = e) (hmp : ∀ z ∈ m, z < p) (hp : 2 ≤ p) (he : 1 ≤ e) (he6 : e ≤ 6) (hq : p ^ e ≤ 64) (hx : x < 1000) (hy : y < 1000) :
    FN Try.prog 23 [fldv p e b e c, nv x, nv y] H (fun v H' => v = nv (mulF p e m x y) ∧ H' = H) := by
  have hp64 : p ≤ 64 := by have := pow_le64 (k := 1) hp he hq; simpa using this
  have he0 : e ≠ 0 := by omega
  refine FN.gc0 (FN.of_compZ mixed xf23_ok (Nat.le_of_ble_eq_true rfl) ?_)
  simp (disch := (first | omega | (simp only [List.length_map]; omega) | (simp only [List.length_map, List.length_set, List.length_replicate, List.length_append, List.length_cons, List.length_nil] <;> omega) | (simp only [all_nv]; done) | rfl)) only [↓stPre, stOwn, stNat, stList, stProp, Nat.reduceEqDiff, Nat.reduceLT, Nat.reduceLeDiff, ↓reduceIte, eq_self, true_implies, false_implies, ite_true, ite_false, if_true, if_false, ne_eq, xf23]
  refine FZ.use (sound_spec hp he he6 rfl hq) ?_
  simp (disch := (first | omega | (simp only [List.length_map]; omega) | (simp only [List.length_map, List.length_set, List.length_replicate, List.length_append, List.length_cons, List.length_nil] <;> omega) | (simp only [all_nv]; done) | rfl)) only [↓stPre, stOwn, stNat, stList, stProp, Nat.reduceEqDiff, Nat.reduceLT, Nat.reduceLeDiff, ↓reduceIte, eq_self, true_implies, false_implies, ite_true, ite_false, if_true, if_false, ne_eq]
  refine FZ.use (split_spec (by omega) (by omega) (by omega)) ?_
  have l1 : (digs p x 12).length = 12 := digs_length _ _ _
  simp (disch := (first | omega | (simp only [List.length_map]; omega) | (simp only [List.length_map, List.length_set, List.length_replicate, List.length_append, List.length_cons, List.length_nil] <;> omega) | (simp only [all_nv]; done) | rfl)) only [↓stPre, stOwn, stNat, stList, stProp, Nat.reduceEqDiff, Nat.reduceLT, Nat.reduceLeDiff, ↓reduceIte, eq_self, true_implies, false_implies, ite_true, ite_false, if_true, if_false, ne_eq]
  refine FZ.mono mkdown_spec ?_
  rintro _ _ ⟨rfl, rfl⟩
  simp (disch := (first | omega | (simp only [List.length_map]; omega) | (simp only [List.length_map, List.length_set, List.length_replicate, List.length_append, List.length_cons, List.length_nil] <;> omega) | (simp only [all_nv]; done) | rfl)) only [↓stPre, stOwn, stNat, stList, stProp, Nat.reduceEqDiff, Nat.reduceLT, Nat.reduceLeDiff, ↓reduceIte, eq_self, true_implies, false_implies, ite_true, ite_false, if_true, if_false, ne_eq]
  have hb2 := fun (Y : AH) => get_old (L := Y) hb
  generalize hD : digs p x 12 = X at *
  refine X_gen (fun s H' => s.env 3 = .pointer (some ⟨H.length, 0, none⟩) ∧ s.env 7 = .pointer (some ⟨H.length + 1, 0, none⟩) ∧ s.env 8 = .pointer (some ⟨H.length + 2, 0, none⟩) ∧ s.env 22 = .func (.func 63) #[] #[.pointer (some ⟨H.length + 3, 0, none⟩), .pointer (some ⟨H.length + 4, 0, none⟩)] ∧ s.ds = [] ∧
     H' = H ++ [.cells [nv p, nv e, .slice (some ⟨b, 0, none⟩) e c] 26 none false, .cells (X.map nv) 55 none false, .cells ((List.replicate 12 0).map nv) 55 none false, .cells [nv p, nv e, .slice (some ⟨b, 0, none⟩) e c] 26 none false, .cells [nv y] 3 none false]) ?_ ?_
  · simp (disch := (first | omega | (simp only [List.length_map]; omega) | (simp only [List.length_map, List.length_set, List.length_replicate, List.length_append, List.length_cons, List.length_nil] <;> omega) | (simp only [all_nv]; done) | rfl)) only [↓stPre, stOwn, stNat, stList, stProp, Nat.reduceEqDiff, Nat.reduceLT, Nat.reduceLeDiff, ↓reduceIte, eq_self, true_implies, false_implies, ite_true, ite_false, if_true, if_false, ne_eq]
    simp
  rintro s H1 ⟨e3, e7, e8, e22, eds, rfl⟩
  refine range_ind (f := .tmp 22) (g := 63) rfl e22 ?_
  intro assign body hA hB
  simp only [List.length_append, List.length_cons, List.length_nil, List.append_assoc, List.cons_append, List.nil_append, Nat.zero_add, Nat.reduceAdd, Nat.add_assoc]
  refine FN.mono (down_spec (b := b) (n := e) (c := c) (Ib p e b c X y m H (newLoop 74 s #[23] assign body (H.length + 5))) hp hp64 he he6 hy ?_ ?_ ?_ ?_ ?_) ?_
  · simp only [Ib, mulR, List.range_zero, List.foldl_nil]
  · rintro k Hb rfl
    simp
  · rintro k Hb rfl
    exact get_new.trans rfl
  · exact get_new.trans rfl
  · rintro k Hb J hk rfl
    simp only [List.append_assoc, List.cons_append]
    have hO := mulR_ok (e := e) (k := k) (m := m) (x := X) (y := digs p y 12) (show 0 < p by omega)
    have hY := digs_lt (p := p) (by omega) 12 y
    have lY : (digs p y 12).length = 12 := digs_length _ _ _
    have hR : mulR p e m X (digs p y 12) (k + 1) = mulS p e m X (mulR p e m X (digs p y 12) k) ((digs p y 12).getD (e - 1 - k) 0) := by
      simp only [mulR, List.range_succ, List.foldl_append, List.foldl_cons, List.foldl_nil]
    have hc := getD_lt (k := e - 1 - k) (by omega) hY
    have hX := digs_lt (p := p) (by omega) 12 x
    rw [hD] at hX
    generalize hC : (digs p y 12).getD (e - 1 - k) 0 = C at *
    simp only [Ib, hR]
    generalize hO' : mulR p e m X (digs p y 12) k = O at *
    obtain ⟨lO, hOp⟩ := hO
    have ht := getD_lt (k := e - 1) (by omega) hOp
    refine YN.introZ mixed (r := newLoop 74 s #[23] assign body (H.length + 5)) (get_new.trans rfl) hA hB rfl (by simp [newLoop]) ?_
    simp (disch := (first | omega | (simp only [List.length_map]; omega) | (simp only [List.length_map, List.length_set, List.length_replicate, List.length_append, List.length_cons, List.length_nil] <;> omega) | (simp only [all_nv]; done) | rfl)) only [↓stPre, stOwn, stNat, stList, stProp, Nat.reduceEqDiff, Nat.reduceLT, Nat.reduceLeDiff, ↓reduceIte, eq_self, true_implies, false_implies, ite_true, ite_false, if_true, if_false, ne_eq, parEnv_one, parEnv_at, E_ynA]
    refine ⟨newLoop 74 s #[23] assign body (H.length + 5), rfl, rfl, ?_⟩
    simp (disch := (first | omega | (simp only [List.length_map]; omega) | (simp only [List.length_map, List.length_set, List.length_replicate, List.length_append, List.length_cons, List.length_nil] <;> omega) | (simp only [all_nv]; done) | rfl)) only [↓stPre, stOwn, stNat, stList, stProp, Nat.reduceEqDiff, Nat.reduceLT, Nat.reduceLeDiff, ↓reduceIte, eq_self, true_implies, false_implies, ite_true, ite_false, if_true, if_false, ne_eq, parEnv_one, parEnv_at, e3, e7, e8, newLoop]
    clear hA hB
    refine LZ.nat (e - 1) (fun k' s' H' => s'.env 3 = .pointer (some ⟨H.length, 0, none⟩) ∧ s'.env 7 = .pointer (some ⟨H.length + 1, 0, none⟩) ∧ s'.env 8 = .pointer (some ⟨H.length + 2, 0, none⟩) ∧ s'.env 9 = nv C ∧ s'.env 10 = nv (O.getD (e - 1) 0) ∧ s'.env 11 = nv (e - 1 - k') ∧ s'.ds = [] ∧
     H' = H ++ (.cells [nv p, nv e, .slice (some ⟨b, 0, none⟩) e c] 26 none false :: .cells (X.map nv) 55 none false :: .cells (((List.range k').foldl (shK e) O).map nv) 55 none false :: .cells [nv p, nv e, .slice (some ⟨b, 0, none⟩) e c] 26 none false :: .cells [nv y] 3 none false :: .defs (some []) :: .loop { newLoop 74 s #[23] assign body (H.length + 5) with state := .busy } :: J)) ?_ ?_ ?_
    · simp (disch := (first | omega | (simp only [List.length_map]; omega) | (simp only [List.length_map, List.length_set, List.length_replicate, List.length_append, List.length_cons, List.length_nil] <;> omega) | (simp only [all_nv]; done) | rfl)) only [↓stPre, stOwn, stNat, stList, stProp, Nat.reduceEqDiff, Nat.reduceLT, Nat.reduceLeDiff, ↓reduceIte, eq_self, true_implies, false_implies, ite_true, ite_false, if_true, if_false, ne_eq, newLoop]
      simp [e3, e7, e8, parEnv_at]
    · rintro k' s' H1 hk' ⟨f3, f7, f8, f9, f10, f11, fds, rfl⟩
      obtain ⟨w1, w2⟩ := fold_ok (f := shK e) (p := p) (n := 12) (fun out k h1 h2 => shK_ok (by omega) h1 h2) (List.range k') O lO hOp
      rw [show List.range (k' + 1) = List.range k' ++ [k'] from List.range_succ, List.foldl_append]
      generalize hW : (List.range k').foldl (shK e) O = V at *
      have g1 := getD_lt (k := e - 1 - k' - 1) (by omega) w2
      have hpos : 0 < e - 1 - k' := by omega
      simp (disch := (first | omega | (simp only [List.length_map]; omega) | (simp only [List.length_map, List.length_set, List.length_replicate, List.length_append, List.length_cons, List.length_nil] <;> omega) | (simp only [all_nv]; done) | rfl)) only [↓stPre, stOwn, stNat, stList, stProp, Nat.reduceEqDiff, Nat.reduceLT, Nat.reduceLeDiff, ↓reduceIte, eq_self, true_implies, false_implies, ite_true, ite_false, if_true, if_false, ne_eq, f3, f7, f8, f9, f10, f11, fds, hpos]
      rw [show e - 1 - (k' + 1) = e - 1 - k' - 1 by omega]
      simp [shK]
    · rintro s' H1 ⟨f3, f7, f8, f9, f10, f11, fds, rfl⟩
      obtain ⟨w1, w2⟩ := sh0_ok (p := p) (e := e) (n := 12) (k := e - 1) (by omega) lO hOp
      obtain ⟨w3, w4⟩ := fold_ok (f := shK e) (p := p) (n := 12) (fun out k h1 h2 => shK_ok (by omega) h1 h2) (List.range (e - 1)) O lO hOp
      have hneg : ¬ 0 < e - 1 - (e - 1) := by omega
      simp (disch := (first | omega | (simp only [List.length_map]; omega) | (simp only [List.length_map, List.length_set, List.length_replicate, List.length_append, List.length_cons, List.length_nil] <;> omega) | (simp only [all_nv]; done) | rfl)) only [↓stPre, stOwn, stNat, stList, stProp, Nat.reduceEqDiff, Nat.reduceLT, Nat.reduceLeDiff, ↓reduceIte, eq_self, true_implies, false_implies, ite_true, ite_false, if_true, if_false, ne_eq, f3, f7, f8, f9, f10, f11, fds, hneg]
      generalize hW : ((List.range (e - 1)).foldl (shK e) O).set 0 0 = W at *
      generalize hT : O.getD (e - 1) 0 = T at *
      refine LZ.nat e (fun k' s' H' => s'.env 3 = .pointer (some ⟨H.length, 0, none⟩) ∧ s'.env 7 = .pointer (some ⟨H.length + 1, 0, none⟩) ∧ s'.env 8 = .pointer (some ⟨H.length + 2, 0, none⟩) ∧ s'.env 9 = nv C ∧ s'.env 10 = nv T ∧ s'.env 44 = nv e ∧ s'.env 45 = nv k' ∧ s'.ds = [] ∧
     H' = H ++ (.cells [nv p, nv e, .slice (some ⟨b, 0, none⟩) e c] 26 none false :: .cells (X.map nv) 55 none false :: .cells (((List.range k').foldl (mdK p T C m X) W).map nv) 55 none false :: .cells [nv p, nv e, .slice (some ⟨b, 0, none⟩) e c] 26 none false :: .cells [nv y] 3 none false :: .defs (some []) :: .loop { newLoop 74 s #[23] assign body (H.length + 5) with state := .busy } :: J)) ?_ ?_ ?_
      · simp (disch := (first | omega | (simp only [List.length_map]; omega) | (simp only [List.length_map, List.length_set, List.length_replicate, List.length_append, List.length_cons, List.length_nil] <;> omega) | (simp only [all_nv]; done) | rfl)) only [↓stPre, stOwn, stNat, stList, stProp, Nat.reduceEqDiff, Nat.reduceLT, Nat.reduceLeDiff, ↓reduceIte, eq_self, true_implies, false_implies, ite_true, ite_false, if_true, if_false, ne_eq, newLoop]
        simp [f3, f7, f8, f9, f10, hW, fds]
      · rintro i s1 H1 hi ⟨g3, g7, g8, g9, g10, g44, g45, gds, rfl⟩
        obtain ⟨w5, w6⟩ := fold_ok (f := mdK p T C m X) (p := p) (n := 12) (fun out k h1 h2 => mdK_ok (by omega) h1 h2) (List.range i) W w1 w2
        rw [show List.range (i + 1) = List.range i ++ [i] from List.range_succ, List.foldl_append]
        generalize hV : (List.range i).foldl (mdK p T C m X) W = V at *
        have v1 := getD_lt (k := i) (by omega) w6
        have v2 := getD_lt (k := i) (by omega) hX
        have v3 := getD_lt (k := i) (by omega) hmp
        have m1 : T * m.getD i 0 ≤ 64 * 64 := Nat.mul_le_mul (by omega) (by omega)
        have m2 : C * X.getD i 0 ≤ 64 * 64 := Nat.mul_le_mul (by omega) (by omega)
        simp (disch := (first | omega | (simp only [List.length_map]; omega) | (simp only [List.length_map, List.length_set, List.length_replicate, List.length_append, List.length_cons, List.length_nil] <;> omega) | (simp only [all_nv]; done) | rfl)) only [↓stPre, stOwn, stNat, stList, stProp, Nat.reduceEqDiff, Nat.reduceLT, Nat.reduceLeDiff, ↓reduceIte, eq_self, true_implies, false_implies, ite_true, ite_false, if_true, if_false, ne_eq, g3, g7, g8, g9, g10, g44, g45, gds, hi, hb2, xbin_subZ, xbin_addZ]
        refine FZ.use (mul_modN hp hp64) ?_
        simp (disch := (first | omega | (simp only [List.length_map]; omega) | (simp only [List.length_map, List.length_set, List.length_replicate, List.length_append, List.length_cons, List.length_nil] <;> omega) | (simp only [all_nv]; done) | rfl)) only [↓stPre, stOwn, stNat, stList, stProp, Nat.reduceEqDiff, Nat.reduceLT, Nat.reduceLeDiff, ↓reduceIte, eq_self, true_implies, false_implies, ite_true, ite_false, if_true, if_false, ne_eq, g3, g7, g8, g9, g10, g44, g45, gds, hi, hb2]
        simp only [List.foldl_cons, List.foldl_nil, mdK]
      · rintro s1 H1 ⟨g3, g7, g8, g9, g10, g44, g45, gds, rfl⟩
        simp (disch := (first | omega | (simp only [List.length_map]; omega) | (simp only [List.length_map, List.length_set, List.length_replicate, List.length_append, List.length_cons, List.length_nil] <;> omega) | (simp only [all_nv]; done) | rfl)) only [↓stPre, stOwn, stNat, stList, stProp, Nat.reduceEqDiff, Nat.reduceLT, Nat.reduceLeDiff, ↓reduceIte, eq_self, true_implies, false_implies, ite_true, ite_false, if_true, if_false, ne_eq, g3, g7, g8, g9, g10, g44, g45, gds, E_ynB]
        refine ⟨_, rfl, rfl, _, [], ?_, rfl⟩
        simp only [mulS, hT, hW, newLoop, List.append_nil, List.append_assoc, List.cons_append, List.nil_append]
        rfl
  · rintro v H' ⟨Hb, J, rfl, rfl⟩
    have hO := mulR_ok (e := e) (k := e) (m := m) (x := X) (y := digs p y 12) (show 0 < p by omega)
    obtain ⟨lO, hOp⟩ := hO
    simp only [List.append_assoc, List.cons_append, List.nil_append]
    refine ⟨newLoop 74 s #[23] assign body (H.length + 5), .normal, get_new.trans rfl, by simp [newLoop], rfl, ?_⟩
    refine EZ_of ?_
    simp (disch := (first | omega | (simp only [List.length_map]; omega) | (simp only [List.length_map, List.length_set, List.length_replicate, List.length_append, List.length_cons, List.length_nil] <;> omega) | (simp only [all_nv]; done) | rfl)) only [↓stPre, stOwn, stNat, stList, stProp, Nat.reduceEqDiff, Nat.reduceLT, Nat.reduceLeDiff, ↓reduceIte, eq_self, true_implies, false_implies, ite_true, ite_false, if_true, if_false, ne_eq, e3, e8, xf23, newLoop]
    refine FZ.use (join_spec hp he6 hq lO (fun z hz => hOp z (List.mem_of_mem_take hz))) ?_
    simp (disch := (first | omega | (simp only [List.length_map]; omega) | (simp only [List.length_map, List.length_set, List.length_replicate, List.length_append, List.length_cons, List.length_nil] <;> omega) | (simp only [all_nv]; done) | rfl)) only [↓stPre, stOwn, stNat, stList, stProp, Nat.reduceEqDiff, Nat.reduceLT, Nat.reduceLeDiff, ↓reduceIte, eq_self, true_implies, false_implies, ite_true, ite_false, if_true, if_false, ne_eq, e3, e8, xf23, newLoop, eds]
    rw [unwA_col (get_new.trans rfl)]
    simp (disch := (first | omega | (simp only [List.length_map]; omega) | (simp only [List.length_map, List.length_set, List.length_replicate, List.length_append, List.length_cons, List.length_nil] <;> omega) | (simp only [all_nv]; done) | rfl)) only [↓stPre, stOwn, stNat, stList, stProp, Nat.reduceEqDiff, Nat.reduceLT, Nat.reduceLeDiff, ↓reduceIte, eq_self, true_implies, false_implies, ite_true, ite_false, if_true, if_false, ne_eq, e3, e8, xf23, newLoop, eds]
    simp [mulF, ground, scal, hD]
end Go.Sim

/- The semantic simulation logic, part 27: known answers, as oracles. -/
set_option linter.unusedSimpArgs false
namespace Go.Sim
open Go

/-- A value without blocks. -/
def clo : Value → Bool
  | .tuple a => a.toList.all ground
  | v => ground v
theorem VR.of_clo {v : Value} (h : clo v = true) (i : Inj) : VR i v v := by
  unfold clo at h
  split at h
  · rename_i a
    have := VRs.tup (VRs.ground (i := i) h)
    simpa using this
  · exact VR.of_ground h i
theorem VRs.aggL {i : Inj} {l l' : List Value} (h : VRs i l l') : VR i (.agg l.toArray) (.agg l'.toArray) :=
  .agg (by simp [h.length]) (fun k h1 h2 => by simpa using h.at_ k (by simpa using h1) (by simpa using h2))

/-- An answer: a value; a new row; a field with an error, whose list is a new row. -/
inductive KRes
  | val (v : Value)
  | row (l c : Nat) (x : AB)
  | fld (p e n c er : Nat) (x : AB)
def KRes.mk : KRes → Nat → Value
  | .val v, _ => v
  | .row l c _, b => .slice (some ⟨b, 0, none⟩) l c
  | .fld p e n c er _, b => .tuple [.agg [nv p, nv e, .slice (some ⟨b, 0, none⟩) n c].toArray, nv er].toArray
def KRes.hp : KRes → AH → AH
  | .val _, H => H
  | .row _ _ x, H => H ++ [x]
  | .fld _ _ _ _ _ x, H => H ++ [x]

def KnownOk (P : Program) (g : FuncId) (args : List Value) (r : KRes) : Prop := ∀ H, FN P g args H (fun v H' => v = r.mk H.length ∧ H' = r.hp H)

theorem known_val {P : Program} {g : FuncId} {args : List Value} {v : Value} {J : AH} (hg : args.all ground = true) (hv : clo v = true) (h : FN P g args [] (fun v1 H1 => v1 = v ∧ H1 = J)) (H : AH) : FN P g args H (fun v1 H' => v1 = v ∧ H' = H) := by
  obtain ⟨hc, v1, H1, ⟨rfl, rfl⟩, hs⟩ := h
  have h2 : FSim P g args [] v1 [] := hs.rename (fun _ => none) (fun b hb => by simp at hb) (fun b o _ ho => by cases ho) (fun b b' o h1 => by cases h1) (VR.of_clo hv _) (Nat.le_refl _) (fun b hb => by simp at hb)
  exact ⟨hc, v1, H ++ [], ⟨rfl, by simp⟩, h2.frame hg H (VR.of_clo hv _) rfl (fun k x hk => by simp at hk)⟩

theorem known_blk {P : Program} {g : FuncId} {args : List Value} {mk : Nat → Value} {x : AB} {J : AH} {k : Nat} (hg : args.all ground = true) (hmk : ∀ (σ : Nat → Option Nat) b2 b, σ b2 = some b → VR (hat σ) (mk b2) (mk b))
    (hx : ∀ σ, AR σ x x) (hJ : J[k]? = some x) (h : FN P g args [] (fun v1 H1 => v1 = mk k ∧ H1 = J)) (H : AH) : FN P g args H (fun v1 H' => v1 = mk H.length ∧ H' = H ++ [x]) := by
  have h1 : FN P g args [] (fun v H' => ∃ x1, H' = [] ++ [x1] ∧ v = mk 0 ∧ x1 = x) := FN.gc1 (R := fun v x1 => v = mk 0 ∧ x1 = x) (h.mono (by
    rintro _ _ ⟨rfl, rfl⟩
    exact ⟨_, k, mk 0, x, (List.nil_append _).symm, hJ, fun σ _ h => ⟨hmk σ 0 k (by simpa using h), hx σ⟩, rfl, rfl⟩))
  obtain ⟨hc, v1, H1, ⟨x1, rfl, rfl, rfl⟩, hs⟩ := h1
  refine ⟨hc, mk H.length, H ++ [x1], ⟨rfl, rfl⟩, hs.frame hg H (hmk _ _ _ (by simp)) rfl (fun k x hk => ?_)⟩
  cases k with
  | zero => simp at hk; subst hk; exact ⟨_, rfl, hx _⟩
  | succ k => simp at hk

theorem KRes.mk_row {l c : Nat} {x : AB} (σ : Nat → Option Nat) (b2 b : Nat) (h : σ b2 = some b) : VR (hat σ) ((KRes.row l c x).mk b2) ((KRes.row l c x).mk b) := hat_slice h
theorem KRes.mk_fld {p e n c er : Nat} {x : AB} (σ : Nat → Option Nat) (b2 b : Nat) (h : σ b2 = some b) : VR (hat σ) ((KRes.fld p e n c er x).mk b2) ((KRes.fld p e n c er x).mk b) :=
  VRs.tup (.cons (VRs.aggL (.cons (.int _ _) (.cons (.int _ _) (.cons (hat_slice h) .nil)))) (.cons (.int _ _) .nil))

def blkOf : Value → Nat
  | .slice (some a) _ _ => a.block
  | .tuple a => match a.toList with
    | .agg c :: _ => match c.toList with
      | [_, _, .slice (some a) _ _] => a.block
      | _ => 0
    | _ => 0
  | _ => 0
def eqVL : List Value → List Value → Bool
  | [], [] => true
  | a :: l, b :: m => eqV a b && eqVL l m
  | _, _ => false
theorem eqVL_eq : ∀ {a b : List Value}, eqVL a b = true → a = b
  | [], [], _ => rfl
  | a :: l, b :: m, h => by
    simp only [eqVL, Bool.and_eq_true] at h
    rw [eqV_eq h.1, eqVL_eq h.2]
  | [], _ :: _, h => by simp [eqVL] at h
  | _ :: _, [], h => by simp [eqVL] at h
def eqW : Value → Value → Bool
  | .tuple a, .tuple b => eqVL a.toList b.toList
  | a, b => eqV a b
theorem eqW_eq {a b : Value} (h : eqW a b = true) : a = b := by
  unfold eqW at h
  split at h
  · have := eqVL_eq h
    congr 1
    exact Array.ext' this
  · exact eqV_eq h
def eqB : Option AB → AB → Bool
  | some (.cells c e o r), .cells c' e' o' r' => eqL c c' && e == e' && o == o' && r == r' && c'.all ground
  | _, _ => false
theorem eqB_eq {a : Option AB} {x : AB} (h : eqB a x = true) : a = some x ∧ ∀ σ, AR σ x x := by
  unfold eqB at h
  split at h
  · simp only [Bool.and_eq_true, beq_iff_eq] at h
    obtain ⟨⟨⟨⟨h1, rfl⟩, rfl⟩, rfl⟩, h2⟩ := h
    rw [eqL_eq h1]
    exact ⟨rfl, fun σ => .cells _ _ _ (VRs.ground h2)⟩
  · cases h
/-- Is that the answer? -/
def kChk (r : Option (Value × AH)) (kr : KRes) : Bool := match r with
  | none => false
  | some (v, J) => match kr with
    | .val w => eqW v w && clo w
    | .row l c x => eqW v ((KRes.row l c x).mk (blkOf v)) && eqB J[blkOf v]? x
    | .fld p e n c er x => eqW v ((KRes.fld p e n c er x).mk (blkOf v)) && eqB J[blkOf v]? x

theorem known_of {P : Program} (hm : P.follows .mixedOrders = true) {T : FuncId → Option XF} (hT : ∀ g xf, T g = some xf → compF P g = some xf) {O : CallT} (hO : CallOk P O) {L d : Nat} {g : FuncId} {args : List Value} {kr : KRes}
    (hg : args.all ground = true) (h : kChk (callF T O L d g args []) kr = true) : KnownOk P g args kr := by
  intro H
  unfold kChk at h
  split at h
  · cases h
  · rename_i v J hv
    have hF := (callF_ok hm hT hO L d g args [] v J hv).1
    split at h
    · rename_i w
      rw [Bool.and_eq_true] at h
      have := eqW_eq h.1
      subst this
      exact known_val hg h.2 hF H
    · rename_i l c x
      rw [Bool.and_eq_true] at h
      have h1 := eqW_eq h.1
      obtain ⟨h2, h3⟩ := eqB_eq h.2
      exact known_blk (mk := (KRes.row l c x).mk) hg KRes.mk_row h3 h2 (hF.mono (by rintro _ _ ⟨rfl, rfl⟩; exact ⟨h1, rfl⟩)) H
    · rename_i p e n c er x
      rw [Bool.and_eq_true] at h
      have h1 := eqW_eq h.1
      obtain ⟨h2, h3⟩ := eqB_eq h.2
      exact known_blk (mk := (KRes.fld p e n c er x).mk) hg KRes.mk_fld h3 h2 (hF.mono (by rintro _ _ ⟨rfl, rfl⟩; exact ⟨h1, rfl⟩)) H

/-- A list of known answers of one function. -/
abbrev KTab := List (List Value × KRes)
def KTabOk (P : Program) (g : FuncId) (t : KTab) : Prop := ∀ x ∈ t, KnownOk P g x.1 x.2
noncomputable def kAll (T : FuncId → Option XF) (O : CallT) (L d : Nat) (g : FuncId) (t : KTab) : Bool :=
  List.rec true (fun x _ ih => bif x.1.all ground && kChk (callF T O L d g x.1 []) x.2 then ih else false) t
theorem KTabOk.of {P : Program} (hm : P.follows .mixedOrders = true) {T : FuncId → Option XF} (hT : ∀ g xf, T g = some xf → compF P g = some xf) {O : CallT} (hO : CallOk P O) {L d : Nat} {g : FuncId} : ∀ {t : KTab}, kAll T O L d g t = true → KTabOk P g t
  | [], _ => by intro x hx; cases hx
  | y :: t, h => by
    change (bif y.1.all ground && kChk (callF T O L d g y.1 []) y.2 then kAll T O L d g t else false) = true at h
    cases e : (y.1.all ground && kChk (callF T O L d g y.1 []) y.2) with
    | false => rw [e] at h; cases h
    | true =>
      rw [e] at h
      rw [Bool.and_eq_true] at e
      intro x hx
      cases hx with
      | head => exact known_of hm hT hO e.1 e.2
      | tail _ hx => exact KTabOk.of hm hT hO h x hx
theorem KTabOk.append {P : Program} {g : FuncId} {a b : KTab} (ha : KTabOk P g a) (hb : KTabOk P g b) : KTabOk P g (a ++ b) := by
  intro x hx
  rcases List.mem_append.1 hx with h | h
  · exact ha x h
  · exact hb x h

noncomputable def kOut (H : AH) (r : KRes) : Option (Value × AH) :=
  KRes.rec (fun v => some (v, H)) (fun l c x => forceN (lenN H) fun b => some ((KRes.row l c x).mk b, H ++ [x])) (fun p e n c er x => forceN (lenN H) fun b => some ((KRes.fld p e n c er x).mk b, H ++ [x])) r
theorem kOut_eq (H : AH) (r : KRes) : kOut H r = some (r.mk H.length, r.hp H) := by
  have hl : ∀ H : AH, lenN H = H.length := fun H => lenN_eq H
  cases r with
  | val v => rfl
  | row l c x =>
    change forceN (lenN H) (fun b => some ((KRes.row l c x).mk b, H ++ [x])) = _
    rw [forceN_eq, hl]; rfl
  | fld p e n c er x =>
    change forceN (lenN H) (fun b => some ((KRes.fld p e n c er x).mk b, H ++ [x])) = _
    rw [forceN_eq, hl]; rfl
noncomputable def oKn (g : FuncId) (t : KTab) : CallT := fun g' args H => bif Nat.beq g g' then List.rec none (fun x _ ih => bif eqL x.1 args then kOut H x.2 else ih) t else none
theorem oKn_ok {P : Program} {g : FuncId} {t : KTab} (h : KTabOk P g t) : CallOk P (oKn g t) := by
  intro g' args H v H' he
  unfold oKn at he
  cases hg : Nat.beq g g' with
  | false => rw [hg] at he; cases he
  | true =>
    rw [hg] at he
    simp only [cond_true] at he
    have hg := Nat.eq_of_beq_eq_true hg
    subst hg
    induction t with
    | nil => cases he
    | cons x t ih =>
      change (bif eqL x.1 args then kOut H x.2 else List.rec none (fun x _ ih => bif eqL x.1 args then kOut H x.2 else ih) t) = _ at he
      cases hx : eqL x.1 args with
      | false => rw [hx] at he; exact ih (fun y hy => h y (List.mem_cons_of_mem _ hy)) he
      | true =>
        rw [hx, cond_true, kOut_eq] at he
        have h0 := eqL_eq hx
        subst h0
        have h1 := h x List.mem_cons_self H
        cases he
        refine ⟨h1, ?_⟩
        have hk : ∀ y, Keep H.length H (H ++ [y]) := fun y => ⟨by simp, fun b hb => List.getElem?_append_left hb⟩
        cases x.2 with
        | val v => exact Keep.refl (Nat.le_refl _)
        | row l c y => exact hk y
        | fld p e n c er y => exact hk y

noncomputable def orO (a b : CallT) : CallT := fun g args H => Option.rec (b g args H) some (a g args H)
theorem CallOk.or {P : Program} {a b : CallT} (ha : CallOk P a) (hb : CallOk P b) : CallOk P (orO a b) := by
  intro g args H v H' h
  cases e : a g args H with
  | none => exact hb g args H v H' (by simpa [orO, e] using h)
  | some r => exact ha g args H v H' (by rw [e]; simpa [orO, e] using h)
end Go.Sim

set_option linter.unusedSimpArgs false
namespace Go.Sim
open Go Go.Proofs

def natsOf : List Value → Option (List Nat)
  | [] => some []
  | .int .i64 (.ofNat n) :: l => match natsOf l with
    | some r => some (n :: r)
    | none => none
  | _ :: _ => none
theorem natsOf_ok : ∀ {l : List Value} {r : List Nat}, natsOf l = some r → l = r.map nv
  | [], r, h => by cases h; rfl
  | v :: l, r, h => by
    unfold natsOf at h
    split at h
    · rename_i e; cases e
    · rename_i n l' e
      cases e
      split at h
      · rename_i q hq
        cases h
        rw [natsOf_ok hq]
        rfl
      · cases h
    · cases h

/-- Are these digits right ones? -/
def okFld (p e n : Nat) (m : List Nat) : Bool := Nat.beq n e && Nat.beq m.length e && m.all (fun z => Nat.blt z p) && Nat.ble 2 p && Nat.ble 1 e && Nat.ble e 6 && Nat.ble (Nat.pow p e) 64
def fldOf (H : AH) (v : Value) : Option (Nat × Nat × List Nat) := match v with
  | .agg a => match a.toList with
    | [.int .i64 (.ofNat p), .int .i64 (.ofNat e), .slice (some ⟨b, 0, none⟩) n _] => match H[b]? with
      | some (.cells l _ _ _) => match natsOf l with
        | some m => bif okFld p e n m then some (p, e, m) else none
        | none => none
      | _ => none
    | _ => none
  | _ => none

structure FldAt (H : AH) (v : Value) (p e : Nat) (m : List Nat) : Prop where
  ex : ∃ b c el op r, v = fldv p e b e c ∧ H[b]? = some (.cells (m.map nv) el op r)
  len : m.length = e
  lt : ∀ z ∈ m, z < p
  p2 : 2 ≤ p
  e1 : 1 ≤ e
  e6 : e ≤ 6
  q : p ^ e ≤ 64
theorem fldOf_ok {H : AH} {v : Value} {p e : Nat} {m : List Nat} (h : fldOf H v = some (p, e, m)) : FldAt H v p e m := by
  unfold fldOf at h
  split at h
  · rename_i a
    split at h
    · rename_i p' e' b n c ha
      split at h
      · rename_i l el op r hb
        split at h
        · rename_i m' hm
          cases hk : okFld p' e' n m' with
          | false => rw [hk] at h; cases h
          | true =>
            rw [hk] at h
            cases h
            simp only [okFld, Bool.and_eq_true, List.all_eq_true] at hk
            obtain ⟨⟨⟨⟨⟨⟨k1, k2⟩, k3⟩, k4⟩, k5⟩, k6⟩, k7⟩ := hk
            have k1 := Nat.eq_of_beq_eq_true k1
            have k2 := Nat.eq_of_beq_eq_true k2
            have k3 := fun z hz => Nat.lt_of_lt_of_le (Nat.lt_succ_self z) (Nat.le_of_ble_eq_true (k3 z hz))
            subst k1
            refine ⟨⟨b, c, el, op, r, ?_, by rw [hb, natsOf_ok hm]⟩, k2, k3, Nat.le_of_ble_eq_true k4, Nat.le_of_ble_eq_true k5, Nat.le_of_ble_eq_true k6, Nat.le_of_ble_eq_true k7⟩
            rw [show a = a.toList.toArray by simp, ha]
            rfl
        · cases h
      · cases h
    · cases h
  · cases h

theorem forceN_eq' {α : Type} (n : Nat) (K : Nat → α) : forceN n K = K n := by cases n <;> rfl

/-- Mul as an oracle. -/
noncomputable def oMul : CallT := fun g args H => bif Nat.beq g 23 then match args with
  | [f, .int .i64 (.ofNat x), .int .i64 (.ofNat y)] => match fldOf H f with
    | some (p, e, m) => bif Nat.blt x 1000 && Nat.blt y 1000 then forceN (mulF p e m x y) fun n => some (.int .i64 (.ofNat n), H) else none
    | none => none
  | _ => none else none
theorem oMul_ok : CallOk Try.prog oMul := by
  intro g args H v H' h
  unfold oMul at h
  cases hg : Nat.beq g 23 with
  | false => rw [hg] at h; cases h
  | true =>
    rw [hg] at h
    simp only [cond_true] at h
    have hg := Nat.eq_of_beq_eq_true hg
    subst hg
    split at h
    · rename_i f x y
      split at h
      · rename_i p e m hf
        cases hk : (Nat.blt x 1000 && Nat.blt y 1000) with
        | false => rw [hk] at h; cases h
        | true =>
          rw [hk] at h
          simp only [cond_true, forceN_eq'] at h
          cases h
          simp only [Bool.and_eq_true] at hk
          obtain ⟨⟨b, c, el, op, r, rfl, hb⟩, h1, h2, h3, h4, h5, h6⟩ := fldOf_ok hf
          exact ⟨mul_spec hb h1 h2 h3 h4 h5 h6 (Nat.le_of_ble_eq_true hk.1) (Nat.le_of_ble_eq_true hk.2), Keep.refl (Nat.le_refl _)⟩
      · cases h
    · cases h

theorem nth_zero {α : Type} {a : α} {l : List α} : nth (a :: l) 0 = some a := rfl
theorem nth_succ {α : Type} {a : α} {l : List α} {n : Nat} : nth (a :: l) (n + 1) = nth l n := rfl
theorem nth_nil {α : Type} {n : Nat} : nth ([] : List α) n = none := by cases n <;> rfl
def TabOk (P : Program) (k : Nat) (l : List (Option XF)) : Prop := ∀ g xf, nth l g = some (some xf) → compF P (k + g) = some xf
theorem TabOk.z {P : Program} {k : Nat} : TabOk P k [] := by intro g xf h; rw [nth_nil] at h; cases h
theorem TabOk.s {P : Program} {k : Nat} {x : XF} {l : List (Option XF)} (hx : compF P k = some x) (h : TabOk P (k + 1) l) : TabOk P k (some x :: l) := by
  intro g xf hg
  cases g with
  | zero => rw [nth_zero] at hg; cases hg; exact hx
  | succ g => rw [nth_succ] at hg; rw [show k + (g + 1) = k + 1 + g by omega]; exact h g xf hg
theorem TabOk.n {P : Program} {k : Nat} {l : List (Option XF)} (h : TabOk P (k + 1) l) : TabOk P k (none :: l) := by
  intro g xf hg
  cases g with
  | zero => rw [nth_zero] at hg; cases hg
  | succ g => rw [nth_succ] at hg; rw [show k + (g + 1) = k + 1 + g by omega]; exact h g xf hg

/-- The looked-up functions. -/
def tab : List (Option XF) := [none, none, some xf2, some xf3, some xf4, some xf5, some xf6, some xf7, some xf8, some xf9, some xf10, some xf11, some xf12, some xf13, some xf14, some xf15, some xf16, some xf17, some xf18, some xf19, some xf20, some xf21, some xf22, some xf23, some xf24, some xf25, some xf26, some xf27, some xf28, some xf29, some xf30, some xf31, some xf32, some xf33, some xf34, some xf35, some xf36, some xf37, some xf38, some xf39, some xf40, some xf41, some xf42, some xf43, some xf44, some xf45, some xf46, some xf47, some xf48, some xf49, some xf50, some xf51, some xf52, some xf53, some xf54, some xf55, some xf56, some xf57, some xf58, some xf59, some xf60, some xf61, some xf62, some xf63, some xf64, some xf65, some xf66]
theorem tab_ok : TabOk Try.prog 0 tab := (.n (.n (.s xf2_ok (.s xf3_ok (.s xf4_ok (.s xf5_ok (.s xf6_ok (.s xf7_ok (.s xf8_ok (.s xf9_ok (.s xf10_ok (.s xf11_ok (.s xf12_ok (.s xf13_ok (.s xf14_ok (.s xf15_ok (.s xf16_ok (.s xf17_ok (.s xf18_ok (.s xf19_ok (.s xf20_ok (.s xf21_ok (.s xf22_ok (.s xf23_ok (.s xf24_ok (.s xf25_ok (.s xf26_ok (.s xf27_ok (.s xf28_ok (.s xf29_ok (.s xf30_ok (.s xf31_ok (.s xf32_ok (.s xf33_ok (.s xf34_ok (.s xf35_ok (.s xf36_ok (.s xf37_ok (.s xf38_ok (.s xf39_ok (.s xf40_ok (.s xf41_ok (.s xf42_ok (.s xf43_ok (.s xf44_ok (.s xf45_ok (.s xf46_ok (.s xf47_ok (.s xf48_ok (.s xf49_ok (.s xf50_ok (.s xf51_ok (.s xf52_ok (.s xf53_ok (.s xf54_ok (.s xf55_ok (.s xf56_ok (.s xf57_ok (.s xf58_ok (.s xf59_ok (.s xf60_ok (.s xf61_ok (.s xf62_ok (.s xf63_ok (.s xf64_ok (.s xf65_ok (.s xf66_ok .z)))))))))))))))))))))))))))))))))))))))))))))))))))))))))))))))))))
noncomputable def xfT (g : FuncId) : Option XF := Option.rec none (fun x => x) (nth tab g)
theorem xfT_ok (g : FuncId) (xf : XF) (h : xfT g = some xf) : compF Try.prog g = some xf := by
  unfold xfT at h
  cases e : nth tab g with
  | none => rw [e] at h; cases h
  | some x =>
    rw [e] at h
    have := tab_ok g xf (by rw [e]; exact congrArg some h)
    rwa [Nat.zero_add] at this

/-- What a run on known values shows, at the empty heap. -/
theorem FN.run {O : CallT} (hO : CallOk Try.prog O) {L d : Nat} {g : FuncId} {args : List Value} {v : Value} {H' : AH} (h : callF xfT O L d g args [] = some (v, H')) : FN Try.prog g args [] (fun v1 H1 => v1 = v ∧ H1 = H') :=
  (callF_ok mixed xfT_ok hO L d g args [] v H' h).1
/-- A known answer, at any heap. -/
theorem FN.known {O : CallT} (hO : CallOk Try.prog O) {L d : Nat} {g : FuncId} {args : List Value} {v : Value} (h : callF xfT O L d g args [] = some (v, [])) (hg : (args.all Go.Sim.ground && Go.Sim.ground v) = true) (H : AH) : FN Try.prog g args H (fun v1 H1 => v1 = v ∧ H1 = H) := by
  rw [Bool.and_eq_true] at hg
  exact FN.ground hg.1 hg.2 (FN.run hO h) H
end Go.Sim

set_option linter.unusedSimpArgs false
namespace Go.Sim
open Go Go.Proofs

theorem mulF_lt {p e : Nat} {m : List Nat} (hp : 2 ≤ p) (he6 : e ≤ 6) (x y : Nat) : mulF p e m x y < p ^ e := by
  obtain ⟨h1, h2⟩ := mulR_ok (p := p) (e := e) (k := e) (m := m) (x := digs p x 12) (y := digs p y 12) (by omega)
  have := num_lt (p := p) (by omega) ((mulR p e m (digs p x 12) (digs p y 12) e).take e) (fun z hz => h2 z (List.mem_of_mem_take hz))
  rwa [List.length_take, h1, Nat.min_eq_left (by omega)] at this

/-- Powers, as the code makes them. -/
def powR (p e : Nat) (m : List Nat) : Nat → Nat → Nat → Nat → Nat
  | 0, out, _, _ => out
  | k + 1, out, a, n => if n = 0 then out else powR p e m k (if n % 2 = 1 then mulF p e m out a else out) (mulF p e m a a) (n / 2)
def powF (p e : Nat) (m : List Nat) (a n : Nat) : Nat := powR p e m n 1 a n

theorem power_spec {p e b c x n : Nat} {m : List Nat} {H : AH} {el : TypeId} {op : Option Nat} {r : Bool} (hb : H[b]? = some (.cells (m.map nv) el op r)) (hm : m.length = e) (hmp : ∀ z ∈ m, z < p) (hp : 2 ≤ p) (he : 1 ≤ e) (he6 : e ≤ 6) (hq : p ^ e ≤ 64) (hx : x < 1000) (hn : n < 1000000) :
    FN Try.prog 58 [fldv p e b e c, nv x, nv n] H (fun v H' => v = nv (powF p e m x n) ∧ H' = H) := by
  refine FN.gc0 (FN.of_compZ mixed xf58_ok (Nat.le_of_ble_eq_true rfl) ?_)
  simp (disch := (first | omega | (simp only [List.length_map]; omega) | (simp only [List.length_map, List.length_set, List.length_replicate, List.length_append, List.length_cons, List.length_nil] <;> omega) | (simp only [all_nv]; done) | rfl)) only [↓stPre, stOwn, stNat, stList, stProp, Nat.reduceEqDiff, Nat.reduceLT, Nat.reduceLeDiff, ↓reduceIte, eq_self, true_implies, false_implies, ite_true, ite_false, if_true, if_false, ne_eq, xf58]
  have hb2 := fun (Y : AH) => get_old (L := Y) hb
  have hlt := fun x y => Nat.lt_of_lt_of_le (mulF_lt (m := m) hp he6 x y) hq
  refine LZ.ind (fun k s H' => ∃ out a f, k ≤ f ∧ powR p e m f out a k = powF p e m x n ∧ out < 1000 ∧ a < 1000 ∧ k < 1000000 ∧ s.env 3 = .pointer (some ⟨H.length, 0, none⟩) ∧ s.env 7 = nv out ∧ s.env 1 = nv a ∧ s.env 2 = nv k ∧ s.ds = [] ∧
     H' = H ++ [.cells [nv p, nv e, .slice (some ⟨b, 0, none⟩) e c] 26 none false]) n ?_ ?_
  · refine ⟨1, x, n, Nat.le_refl _, rfl, by omega, hx, hn, ?_⟩
    simp (disch := (first | omega | (simp only [List.length_map]; omega) | (simp only [List.length_map, List.length_set, List.length_replicate, List.length_append, List.length_cons, List.length_nil] <;> omega) | (simp only [all_nv]; done) | rfl)) only [↓stPre, stOwn, stNat, stList, stProp, Nat.reduceEqDiff, Nat.reduceLT, Nat.reduceLeDiff, ↓reduceIte, eq_self, true_implies, false_implies, ite_true, ite_false, if_true, if_false, ne_eq]
  · rintro k s H1 ⟨out, a, f, hf, hpw, ho, ha, hk, e3, e7, e1, e2, eds, rfl⟩
    rcases Nat.eq_zero_or_pos k with rfl | hpos
    · have hneg : ¬ 0 < 0 := by omega
      have : out = powF p e m x n := by rw [← hpw]; cases f <;> simp [powR]
      simp (disch := (first | omega | (simp only [List.length_map]; omega) | (simp only [List.length_map, List.length_set, List.length_replicate, List.length_append, List.length_cons, List.length_nil] <;> omega) | (simp only [all_nv]; done) | rfl)) only [↓stPre, stOwn, stNat, stList, stProp, Nat.reduceEqDiff, Nat.reduceLT, Nat.reduceLeDiff, ↓reduceIte, eq_self, true_implies, false_implies, ite_true, ite_false, if_true, if_false, ne_eq, e3, e7, e1, e2, eds, hneg, xf58]
      simp [ground, scal, this]
    · obtain ⟨f', rfl⟩ : ∃ f', f = f' + 1 := ⟨f - 1, by omega⟩
      have hk0 : k ≠ 0 := by omega
      simp only [powR, hk0, if_false] at hpw
      have g1 := hlt out a
      have g2 := hlt a a
      by_cases hodd : k % 2 = 1
      · rw [if_pos hodd] at hpw
        simp (disch := (first | omega | (simp only [List.length_map]; omega) | (simp only [List.length_map, List.length_set, List.length_replicate, List.length_append, List.length_cons, List.length_nil] <;> omega) | (simp only [all_nv]; done) | rfl)) only [↓stPre, stOwn, stNat, stList, stProp, Nat.reduceEqDiff, Nat.reduceLT, Nat.reduceLeDiff, ↓reduceIte, eq_self, true_implies, false_implies, ite_true, ite_false, if_true, if_false, ne_eq, e3, e7, e1, e2, eds, hpos, hodd]
        refine FZ.use (mul_spec (hb2 _) hm hmp hp he he6 hq ho ha) ?_
        simp (disch := (first | omega | (simp only [List.length_map]; omega) | (simp only [List.length_map, List.length_set, List.length_replicate, List.length_append, List.length_cons, List.length_nil] <;> omega) | (simp only [all_nv]; done) | rfl)) only [↓stPre, stOwn, stNat, stList, stProp, Nat.reduceEqDiff, Nat.reduceLT, Nat.reduceLeDiff, ↓reduceIte, eq_self, true_implies, false_implies, ite_true, ite_false, if_true, if_false, ne_eq, e3, e7, e1, e2, eds]
        refine FZ.use (mul_spec (hb2 _) hm hmp hp he he6 hq ha ha) ?_
        simp (disch := (first | omega | (simp only [List.length_map]; omega) | (simp only [List.length_map, List.length_set, List.length_replicate, List.length_append, List.length_cons, List.length_nil] <;> omega) | (simp only [all_nv]; done) | rfl)) only [↓stPre, stOwn, stNat, stList, stProp, Nat.reduceEqDiff, Nat.reduceLT, Nat.reduceLeDiff, ↓reduceIte, eq_self, true_implies, false_implies, ite_true, ite_false, if_true, if_false, ne_eq, e3, e7, e1, e2, eds]
        exact ⟨k / 2, by omega, _, _, f', by omega, hpw, by omega, by omega, by omega, rfl, rfl, rfl⟩
      · rw [if_neg hodd] at hpw
        simp (disch := (first | omega | (simp only [List.length_map]; omega) | (simp only [List.length_map, List.length_set, List.length_replicate, List.length_append, List.length_cons, List.length_nil] <;> omega) | (simp only [all_nv]; done) | rfl)) only [↓stPre, stOwn, stNat, stList, stProp, Nat.reduceEqDiff, Nat.reduceLT, Nat.reduceLeDiff, ↓reduceIte, eq_self, true_implies, false_implies, ite_true, ite_false, if_true, if_false, ne_eq, e3, e7, e1, e2, eds, hpos, hodd]
        refine FZ.use (mul_spec (hb2 _) hm hmp hp he he6 hq ha ha) ?_
        simp (disch := (first | omega | (simp only [List.length_map]; omega) | (simp only [List.length_map, List.length_set, List.length_replicate, List.length_append, List.length_cons, List.length_nil] <;> omega) | (simp only [all_nv]; done) | rfl)) only [↓stPre, stOwn, stNat, stList, stProp, Nat.reduceEqDiff, Nat.reduceLT, Nat.reduceLeDiff, ↓reduceIte, eq_self, true_implies, false_implies, ite_true, ite_false, if_true, if_false, ne_eq, e3, e7, e1, e2, eds]
        exact ⟨k / 2, by omega, _, _, f', by omega, hpw, by omega, by omega, by omega, rfl, rfl, rfl⟩
end Go.Sim
