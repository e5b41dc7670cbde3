/- The plain law of the fields, part 1: multiplication is bilinear. -/
import Derived.Test.YtaepmmdbhikjlaaFieldO
namespace Go.Sim

/-! ### digits -/
theorem digs_getD (p : Nat) : ∀ (n a i : Nat), i < n → (digs p a n).getD i 0 = a / p ^ i % p
  | 0, _, _, h => by omega
  | n + 1, a, 0, _ => by simp [digs]
  | n + 1, a, i + 1, h => by
    have := digs_getD p n (a / p) i (by omega)
    simp only [digs, List.getD_cons_succ, this, Nat.div_div_eq_div_mul, Nat.pow_succ, Nat.mul_comm]
theorem num_digit {p : Nat} (hp : 0 < p) : ∀ (l : List Nat), (∀ d ∈ l, d < p) → ∀ i, num p l / p ^ i % p = l.getD i 0
  | [], _, i => by simp [num]
  | d :: l, h, 0 => by
    have := h d (by simp)
    simp [num, Nat.add_mul_mod_self_left, Nat.mod_eq_of_lt this]
  | d :: l, h, i + 1 => by
    have hd := h d (by simp)
    have := num_digit hp l (fun x hx => h x (by simp [hx])) i
    rw [List.getD_cons_succ, ← this, Nat.pow_succ, Nat.mul_comm (p ^ i), ← Nat.div_div_eq_div_mul]
    congr 2
    rw [num, Nat.add_mul_div_left _ _ hp, Nat.div_eq_of_lt hd, Nat.zero_add]
theorem digit_ext {p : Nat} (hp : 0 < p) : ∀ (e a b : Nat), a < p ^ e → b < p ^ e → (∀ i, i < e → a / p ^ i % p = b / p ^ i % p) → a = b
  | 0, a, b, ha, hb, _ => by simp at ha hb; omega
  | e + 1, a, b, ha, hb, h => by
    have h0 := h 0 (by omega)
    simp at h0
    have h1 := digit_ext hp e (a / p) (b / p) (by rw [Nat.pow_succ] at ha; exact Nat.div_lt_of_lt_mul (by rwa [Nat.mul_comm])) (by rw [Nat.pow_succ] at hb; exact Nat.div_lt_of_lt_mul (by rwa [Nat.mul_comm])) (fun i hi => by
      have := h (i + 1) (by omega)
      rwa [Nat.pow_succ, Nat.mul_comm (p ^ i), ← Nat.div_div_eq_div_mul, ← Nat.div_div_eq_div_mul] at this)
    rw [← Nat.div_add_mod a p, ← Nat.div_add_mod b p, h0, h1]

/-- The digit of a number. -/
def dg (p a i : Nat) : Nat := a / p ^ i % p
theorem dg_lt {p a i : Nat} (hp : 0 < p) : dg p a i < p := Nat.mod_lt _ hp

theorem addF_lt {p e a b : Nat} (hp : 0 < p) : addF p e a b < p ^ e := by
  have hl : (addL p (digs p a e) (digs p b e)).length = e := by simp [addL, digs_length]
  have := num_lt (p := p) hp (addL p (digs p a e) (digs p b e)) (addL_lt hp)
  rwa [hl] at this
theorem addF_dg {p e a b i : Nat} (hp : 0 < p) (hi : i < e) : dg p (addF p e a b) i = (dg p a i + dg p b i) % p := by
  unfold dg addF
  rw [num_digit hp _ (addL_lt hp), addL_getD (digs_length p e a) (digs_length p e b) i hi, digs_getD p e a i hi, digs_getD p e b i hi]

/-! ### the rounds of a product, as functions of digits -/
theorem getD_set {l : List Nat} {i j v : Nat} (hi : i < l.length) : (l.set i v).getD j 0 = if i = j then v else l.getD j 0 := by
  simp only [List.getD_eq_getElem?_getD, List.getElem?_set]
  by_cases h : i = j
  · subst h; simp [hi]
  · simp [h]
theorem md_getD {p t c : Nat} {m x o : List Nat} : ∀ (n : Nat), n ≤ o.length → ((List.range n).foldl (mdK p t c m x) o).length = o.length ∧ ∀ j, ((List.range n).foldl (mdK p t c m x) o).getD j 0 = if j < n then (((o.getD j 0 : Int) - t * m.getD j 0 + c * x.getD j 0) % p).toNat else o.getD j 0
  | 0, _ => by simp
  | n + 1, h => by
    obtain ⟨h1, h2⟩ := md_getD (p := p) (t := t) (c := c) (m := m) (x := x) (o := o) n (by omega)
    rw [List.range_succ, List.foldl_append]
    simp only [List.foldl_cons, List.foldl_nil]
    generalize (List.range n).foldl (mdK p t c m x) o = O at *
    refine ⟨by simp [mdK, h1], fun j => ?_⟩
    unfold mdK
    rw [getD_set (by omega)]
    by_cases hj : n = j
    · subst hj
      rw [if_pos rfl, if_pos (by omega), h2, if_neg (by omega)]
    · rw [if_neg hj, h2]
      by_cases hn : j < n
      · rw [if_pos hn, if_pos (by omega)]
      · rw [if_neg hn, if_neg (by omega)]
theorem sh_getD {e : Nat} {o : List Nat} (he : e ≤ o.length) : ∀ (n : Nat), n ≤ e - 1 → ((List.range n).foldl (shK e) o).length = o.length ∧ ∀ j, ((List.range n).foldl (shK e) o).getD j 0 = if e - 1 - n < j ∧ j ≤ e - 1 then o.getD (j - 1) 0 else o.getD j 0
  | 0, _ => by
    refine ⟨rfl, fun j => ?_⟩
    rw [if_neg (by omega)]; rfl
  | n + 1, h => by
    obtain ⟨h1, h2⟩ := sh_getD he n (by omega)
    rw [List.range_succ, List.foldl_append]
    simp only [List.foldl_cons, List.foldl_nil]
    generalize (List.range n).foldl (shK e) o = O at *
    refine ⟨by simp [shK, h1], fun j => ?_⟩
    unfold shK
    rw [getD_set (by omega), h2]
    by_cases hj : e - 1 - n = j
    · subst hj
      rw [if_pos rfl, if_neg (by omega), if_pos (by omega)]
    · rw [if_neg hj, h2]
      by_cases hc : e - 1 - n < j ∧ j ≤ e - 1
      · rw [if_pos hc, if_pos (by omega)]
      · rw [if_neg hc, if_neg (by omega)]

/-- The digits of what there is after k rounds. -/
def RR (p e : Nat) (m x y : Nat → Int) : Nat → Nat → Int
  | 0, _ => 0
  | k + 1, i => ((if i = 0 then 0 else RR p e m x y k (i - 1)) - RR p e m x y k (e - 1) * m i + y (e - 1 - k) * x i) % p
theorem mulS_getD {p e c : Nat} {m x o : List Nat} (hp : 0 < p) (hl : o.length = 12) (he : 1 ≤ e) (he6 : e ≤ 6) (i : Nat) (hi : i < e) :
    (((mulS p e m x o c).getD i 0 : Nat) : Int) = ((if i = 0 then 0 else (o.getD (i - 1) 0 : Int)) - o.getD (e - 1) 0 * m.getD i 0 + c * x.getD i 0) % p := by
  obtain ⟨h1, h2⟩ := sh_getD (e := e) (o := o) (by omega) (e - 1) (Nat.le_refl _)
  unfold mulS
  have hlen : (((List.range (e - 1)).foldl (shK e) o).set 0 0).length = 12 := by simp [h1, hl]
  rw [(md_getD e (by omega)).2 i, if_pos hi, Int.toNat_of_nonneg (Int.emod_nonneg _ (by omega)), getD_set (by omega), h2]
  by_cases h0 : i = 0
  · subst h0; simp
  · rw [if_neg (by omega), if_pos (by omega), if_neg h0]
theorem mulR_RR {p e : Nat} {m x y : List Nat} (hp : 0 < p) (he : 1 ≤ e) (he6 : e ≤ 6) : ∀ (k i : Nat), i < e →
    (((mulR p e m x y k).getD i 0 : Nat) : Int) = RR p e (fun j => m.getD j 0) (fun j => x.getD j 0) (fun j => y.getD j 0) k i
  | 0, i, _ => by
    simp only [mulR, List.range_zero, List.foldl_nil, RR, List.getD_eq_getElem?_getD, List.getElem?_replicate]
    split <;> rfl
  | k + 1, i, hi => by
    have hR : mulR p e m x y (k + 1) = mulS p e m x (mulR p e m x y k) (y.getD (e - 1 - k) 0) := by
      simp only [mulR, List.range_succ, List.foldl_append, List.foldl_cons, List.foldl_nil]
    rw [hR, mulS_getD hp (mulR_ok hp).1 he he6 i hi, RR]
    have h1 := mulR_RR (m := m) (x := x) (y := y) hp he he6 k (e - 1) (by omega)
    by_cases h0 : i = 0
    · subst h0; rw [if_pos rfl, if_pos rfl, h1]
    · have h2 := mulR_RR (m := m) (x := x) (y := y) hp he he6 k (i - 1) (by omega)
      rw [if_neg h0, if_neg h0, h1, h2]

theorem RR_add {p e : Nat} {m x1 y1 x2 y2 x3 y3 : Nat → Int} (he : 1 ≤ e) (h : ∀ i j, i < e → j < e → ∃ t, y3 j * x3 i = y1 j * x1 i + y2 j * x2 i + p * t) : ∀ (k i : Nat), k ≤ e → i < e →
    ∃ t, RR p e m x3 y3 k i = RR p e m x1 y1 k i + RR p e m x2 y2 k i + p * t
  | 0, _, _, _ => ⟨0, by simp [RR]⟩
  | k + 1, i, hk, hi => by
    obtain ⟨t1, h1⟩ := RR_add (m := m) he h k (e - 1) (by omega) (by omega)
    obtain ⟨t2, h2⟩ := h i (e - 1 - k) hi (by omega)
    have h3 : ∃ t, (if i = 0 then 0 else RR p e m x3 y3 k (i - 1)) = (if i = 0 then 0 else RR p e m x1 y1 k (i - 1)) + (if i = 0 then 0 else RR p e m x2 y2 k (i - 1)) + p * t := by
      by_cases h0 : i = 0
      · exact ⟨0, by simp [h0]⟩
      · simp only [h0, if_false]
        exact RR_add he h k (i - 1) (by omega) (by omega)
    obtain ⟨t3, h3⟩ := h3
    simp only [RR]
    rw [h2, h3, h1]
    generalize (if i = 0 then 0 else RR p e m x1 y1 k (i - 1)) = a1
    generalize (if i = 0 then 0 else RR p e m x2 y2 k (i - 1)) = a2
    generalize RR p e m x1 y1 k (e - 1) = b1
    generalize RR p e m x2 y2 k (e - 1) = b2
    generalize y1 (e - 1 - k) * x1 i = c1
    generalize y2 (e - 1 - k) * x2 i = c2
    generalize m i = mi
    have e3 := Int.mul_ediv_add_emod (a1 + a2 + p * t3 - (b1 + b2 + p * t1) * mi + (c1 + c2 + p * t2)) p
    have e1 := Int.mul_ediv_add_emod (a1 - b1 * mi + c1) p
    have e2 := Int.mul_ediv_add_emod (a2 - b2 * mi + c2) p
    generalize (a1 + a2 + p * t3 - (b1 + b2 + p * t1) * mi + (c1 + c2 + p * t2)) / (p : Int) = q3 at *
    generalize (a1 - b1 * mi + c1) / (p : Int) = q1 at *
    generalize (a2 - b2 * mi + c2) / (p : Int) = q2 at *
    exact ⟨t3 - t1 * mi + t2 - q3 + q1 + q2, by grind⟩
theorem RR_zero {p e : Nat} {m x y : Nat → Int} (he : 1 ≤ e) (h : ∀ i j, i < e → j < e → y j * x i = 0) : ∀ (k i : Nat), k ≤ e → i < e → RR p e m x y k i = 0
  | 0, _, _, _ => rfl
  | k + 1, i, hk, hi => by
    simp only [RR]
    rw [h i (e - 1 - k) hi (by omega), RR_zero he h k (e - 1) (by omega) (by omega)]
    by_cases h0 : i = 0
    · simp [h0]
    · rw [if_neg h0, RR_zero he h k (i - 1) (by omega) (by omega)]; simp
theorem RR_range {p e : Nat} {m x y : Nat → Int} (hp : 0 < p) : ∀ (k i : Nat), 0 ≤ RR p e m x y k i ∧ RR p e m x y k i < p
  | 0, _ => ⟨Int.le_refl _, by simp only [RR]; omega⟩
  | k + 1, i => ⟨Int.emod_nonneg _ (by omega), Int.emod_lt_of_pos _ (by omega)⟩

/-- A field's numbers. -/
structure Fd (p e : Nat) (m : List Nat) : Prop where
  p2 : 2 ≤ p
  e1 : 1 ≤ e
  e6 : e ≤ 6
  len : m.length = e
  lt : ∀ z ∈ m, z < p
  q : p ^ e ≤ 64

theorem mulF_dg {p e : Nat} {m : List Nat} (F : Fd p e m) (a b i : Nat) (hi : i < e) : (dg p (mulF p e m a b) i : Int) = RR p e (fun j => m.getD j 0) (fun j => (digs p a 12).getD j 0) (fun j => (digs p b 12).getD j 0) e i := by
  have hp := F.p2
  have h6 := F.e6
  obtain ⟨h1, h2⟩ := mulR_ok (p := p) (e := e) (k := e) (m := m) (x := digs p a 12) (y := digs p b 12) (by omega)
  rw [← mulR_RR (by omega) F.e1 F.e6 e i hi]
  unfold dg mulF
  rw [num_digit (by omega) _ (fun z hz => h2 z (List.mem_of_mem_take hz))]
  simp only [List.getD_eq_getElem?_getD, List.getElem?_take, if_pos hi]
theorem dg12 {p a j : Nat} (hj : j < 12) : (digs p a 12).getD j 0 = dg p a j := digs_getD p 12 a j hj

theorem mod_of {p z a b : Nat} {t : Int} (hp : 0 < p) (hz : z < p) (h : (z : Int) = a + b + p * t) : z = (a + b) % p := by
  have h1 : (z : Int) % p = ((a + b : Nat) : Int) % p := by rw [h, Int.add_mul_emod_self_left]; simp
  rw [Int.emod_eq_of_lt (by omega) (by omega)] at h1
  have : (((a + b) % p : Nat) : Int) = ((a + b : Nat) : Int) % p := by simp
  omega
theorem add_dg_int {p e a b j : Nat} (hp : 0 < p) (hj : j < e) : ∃ t : Int, (dg p (addF p e a b) j : Int) = dg p a j + dg p b j + p * t := by
  have h := addF_dg (p := p) (e := e) (a := a) (b := b) hp hj
  have h2 := Nat.div_add_mod (dg p a j + dg p b j) p
  rw [← h] at h2
  refine ⟨-((dg p a j + dg p b j) / p : Nat), ?_⟩
  have : ((p * ((dg p a j + dg p b j) / p) + dg p (addF p e a b) j : Nat) : Int) = ((dg p a j + dg p b j : Nat) : Int) := by rw [h2]
  rw [Int.mul_neg]
  simp only [Int.natCast_add, Int.natCast_mul] at this
  omega

theorem mul_bil {p e : Nat} {m : List Nat} (F : Fd p e m) {a1 b1 a2 b2 a3 b3 : Nat} (h : ∀ i j, i < e → j < e → ∃ t : Int, (dg p b3 j : Int) * dg p a3 i = dg p b1 j * dg p a1 i + dg p b2 j * dg p a2 i + p * t) :
    mulF p e m a3 b3 = addF p e (mulF p e m a1 b1) (mulF p e m a2 b2) := by
  have hp := F.p2
  have h6 := F.e6
  refine digit_ext (by omega) e _ _ (mulF_lt F.p2 F.e6 _ _) (addF_lt (by omega)) (fun i hi => ?_)
  have hd := addF_dg (p := p) (e := e) (a := mulF p e m a1 b1) (b := mulF p e m a2 b2) (by omega) hi
  refine Eq.trans ?_ hd.symm
  obtain ⟨t, ht⟩ := RR_add (p := p) (e := e) (m := fun j => m.getD j 0) (x1 := fun j => (digs p a1 12).getD j 0) (y1 := fun j => (digs p b1 12).getD j 0) (x2 := fun j => (digs p a2 12).getD j 0) (y2 := fun j => (digs p b2 12).getD j 0) (x3 := fun j => (digs p a3 12).getD j 0) (y3 := fun j => (digs p b3 12).getD j 0) F.e1 (fun i j hi hj => by
    simp only [dg12 (show i < 12 by omega), dg12 (show j < 12 by omega)]
    exact h i j hi hj) e i (Nat.le_refl _) hi
  rw [← mulF_dg F a3 b3 i hi, ← mulF_dg F a1 b1 i hi, ← mulF_dg F a2 b2 i hi] at ht
  exact mod_of (by omega) (dg_lt (by omega)) ht
theorem mul_addF {p e : Nat} {m : List Nat} (F : Fd p e m) (a b c : Nat) : mulF p e m a (addF p e b c) = addF p e (mulF p e m a b) (mulF p e m a c) := by
  have hp := F.p2
  refine mul_bil F (fun i j hi hj => ?_)
  obtain ⟨t, ht⟩ := add_dg_int (p := p) (e := e) (a := b) (b := c) (by omega) hj
  exact ⟨t * dg p a i, by rw [ht]; grind⟩
theorem add_mulF {p e : Nat} {m : List Nat} (F : Fd p e m) (a b c : Nat) : mulF p e m (addF p e a b) c = addF p e (mulF p e m a c) (mulF p e m b c) := by
  have hp := F.p2
  refine mul_bil F (fun i j hi hj => ?_)
  obtain ⟨t, ht⟩ := add_dg_int (p := p) (e := e) (a := a) (b := b) (by omega) hi
  exact ⟨t * dg p c j, by rw [ht]; grind⟩
theorem dg_zero {p i : Nat} : dg p 0 i = 0 := by simp [dg]
theorem mul_zeroF {p e : Nat} {m : List Nat} (F : Fd p e m) (a b : Nat) (h : a = 0 ∨ b = 0) : mulF p e m a b = 0 := by
  have hp := F.p2
  have h6 := F.e6
  refine digit_ext (by omega) e _ _ (mulF_lt F.p2 F.e6 _ _) (Nat.pow_pos (by omega)) (fun i hi => ?_)
  have h1 := mulF_dg F a b i hi
  rw [RR_zero F.e1 (fun i j hi hj => by
    simp only [dg12 (show i < 12 by omega), dg12 (show j < 12 by omega)]
    rcases h with rfl | rfl <;> simp [dg_zero]) e i (Nat.le_refl _) hi] at h1
  have h2 : dg p (mulF p e m a b) i = 0 := by omega
  exact h2.trans dg_zero.symm
end Go.Sim
