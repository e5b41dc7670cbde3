/- Part of the proof: MatA. -/
import Derived.Test.YtaepmmdbhikjlaaFieldT
/- The plain law of the fields, part 6: the reference's product is the product. -/
namespace Go.Sim

/-- The first list is, digit by digit, the sum of the others. -/
structure Lin (p : Nat) (l3 l1 l2 : List Nat) : Prop where
  n1 : l1.length = l3.length
  n2 : l2.length = l3.length
  b3 : ∀ z ∈ l3, z < p
  b1 : ∀ z ∈ l1, z < p
  b2 : ∀ z ∈ l2, z < p
  at_ : ∀ j, ∃ t : Int, (l3.getD j 0 : Int) = l1.getD j 0 + l2.getD j 0 + p * t

theorem mem_set_lt {p v i : Nat} {l : List Nat} (h : ∀ z ∈ l, z < p) (hv : v < p) : ∀ z ∈ l.set i v, z < p := by
  intro z hz
  rcases List.mem_or_eq_of_mem_set hz with h1 | rfl
  · exact h z h1
  · exact hv
theorem Lin.set {p i v3 v1 v2 : Nat} {l3 l1 l2 : List Nat} (h : Lin p l3 l1 l2) (h3 : v3 < p) (h1 : v1 < p) (h2 : v2 < p) (hv : ∃ t : Int, (v3 : Int) = v1 + v2 + p * t) : Lin p (l3.set i v3) (l1.set i v1) (l2.set i v2) := by
  refine ⟨by simp [h.n1], by simp [h.n2], mem_set_lt h.b3 h3, mem_set_lt h.b1 h1, mem_set_lt h.b2 h2, fun j => ?_⟩
  by_cases hi : i < l3.length
  · rw [getD_set hi, getD_set (h.n1 ▸ hi), getD_set (h.n2 ▸ hi)]
    by_cases hj : i = j
    · rw [if_pos hj, if_pos hj, if_pos hj]; exact hv
    · rw [if_neg hj, if_neg hj, if_neg hj]; exact h.at_ j
  · rw [List.set_eq_of_length_le (by omega), List.set_eq_of_length_le (by have := h.n1; omega), List.set_eq_of_length_le (by have := h.n2; omega)]
    exact h.at_ j
theorem mod_lin {p a3 a1 a2 : Nat} {t : Int} (h : (a3 : Int) = a1 + a2 + p * t) : ∃ s : Int, ((a3 % p : Nat) : Int) = (a1 % p : Nat) + (a2 % p : Nat) + p * s := by
  have e3 := Int.mul_ediv_add_emod (a3 : Int) p
  have e1 := Int.mul_ediv_add_emod (a1 : Int) p
  have e2 := Int.mul_ediv_add_emod (a2 : Int) p
  simp only [Int.natCast_emod]
  generalize (a3 : Int) / p = q3 at *
  generalize (a1 : Int) / p = q1 at *
  generalize (a2 : Int) / p = q2 at *
  exact ⟨t - q3 + q1 + q2, by grind⟩
theorem Lin.fold {p : Nat} {f3 f1 f2 : List Nat → Nat → List Nat} (h : ∀ k l3 l1 l2, Lin p l3 l1 l2 → Lin p (f3 l3 k) (f1 l1 k) (f2 l2 k)) : ∀ (ks : List Nat) (l3 l1 l2 : List Nat), Lin p l3 l1 l2 → Lin p (ks.foldl f3 l3) (ks.foldl f1 l1) (ks.foldl f2 l2)
  | [], _, _, _, hl => hl
  | k :: ks, _, _, _, hl => Lin.fold h ks _ _ _ (h k _ _ _ hl)

theorem mulL_lin {p e : Nat} {x3 y3 x1 y1 x2 y2 : List Nat} (hp : 0 < p) (h : ∀ i k, ∃ t : Int, (x3.getD i 0 : Int) * y3.getD k 0 = x1.getD i 0 * y1.getD k 0 + x2.getD i 0 * y2.getD k 0 + p * t) : Lin p (mulL p e x3 y3) (mulL p e x1 y1) (mulL p e x2 y2) := by
  refine Lin.fold (fun i l3 l1 l2 hl => Lin.fold (fun k l3 l1 l2 hl => ?_) _ _ _ _ hl) _ _ _ _ ?_
  · obtain ⟨t1, h1⟩ := hl.at_ (i + k)
    obtain ⟨t2, h2⟩ := h i k
    refine hl.set (Nat.mod_lt _ hp) (Nat.mod_lt _ hp) (Nat.mod_lt _ hp) (mod_lin (t := t1 + t2) ?_)
    simp only [Int.natCast_add, Int.natCast_mul]
    rw [h1, h2]
    grind
  · have hz : ∀ z ∈ List.replicate (2 * e) 0, z < p := by intro z hz; rw [List.mem_replicate] at hz; omega
    refine ⟨rfl, rfl, hz, hz, hz, fun j => ⟨0, ?_⟩⟩
    have : (List.replicate (2 * e) 0).getD j 0 = 0 := by
      simp only [List.getD_eq_getElem?_getD, List.getElem?_replicate]; split <;> rfl
    rw [this]; rfl
theorem restL_lin {p d : Nat} {m l3 l1 l2 : List Nat} (hp : 0 < p) (h : Lin p l3 l1 l2) : Lin p (restL p d m l3) (restL p d m l1) (restL p d m l2) := by
  unfold restL
  rw [h.n1, h.n2]
  refine Lin.fold (fun t l3 l1 l2 hl => ?_) _ _ _ _ h
  unfold restI
  rw [hl.n1, hl.n2]
  obtain ⟨s, hs⟩ := hl.at_ (l3.length - 1 - t)
  have c3 := getD_lt (k := l3.length - 1 - t) hp hl.b3
  have c1 := getD_lt (k := l3.length - 1 - t) hp hl.b1
  have c2 := getD_lt (k := l3.length - 1 - t) hp hl.b2
  generalize l3.getD (l3.length - 1 - t) 0 = C3 at *
  generalize l1.getD (l3.length - 1 - t) 0 = C1 at *
  generalize l2.getD (l3.length - 1 - t) 0 = C2 at *
  generalize l3.length - 1 - t - d = B
  refine Lin.fold (fun k l3 l1 l2 hl => ?_) _ _ _ _ hl
  obtain ⟨t1, h1⟩ := hl.at_ (B + k)
  refine hl.set (Nat.mod_lt _ hp) (Nat.mod_lt _ hp) (Nat.mod_lt _ hp) (mod_lin (t := t1 - (1 + s) * m.getD k 0) ?_)
  have g3 : ((p - C3 : Nat) : Int) = (p : Int) - C3 := by omega
  have g1 : ((p - C1 : Nat) : Int) = (p : Int) - C1 := by omega
  have g2 : ((p - C2 : Nat) : Int) = (p : Int) - C2 := by omega
  simp only [Int.natCast_add, Int.natCast_mul, g3, g1, g2]
  rw [h1, hs]
  grind

theorem digE {p e a : Nat} (j : Nat) : (digs p a e).getD j 0 = if j < e then dg p a j else 0 := by
  by_cases h : j < e
  · rw [if_pos h, digs_getD p e a j h]; rfl
  · rw [if_neg h, List.getD_eq_getElem?_getD, List.getElem?_eq_none (by rw [digs_length]; omega)]; rfl

theorem rmul_bil {p e : Nat} {m : List Nat} (F : Fd p e m) {a1 b1 a2 b2 a3 b3 : Nat} (h : ∀ i j, i < e → j < e → ∃ t : Int, (dg p a3 i : Int) * dg p b3 j = dg p a1 i * dg p b1 j + dg p a2 i * dg p b2 j + p * t) :
    rmulF p e m a3 b3 = addF p e (rmulF p e m a1 b1) (rmulF p e m a2 b2) := by
  have hp : 0 < p := by have := F.p2; omega
  have hL := restL_lin (d := e) (m := m ++ [1]) hp (mulL_lin (e := e) (x3 := digs p a3 e) (y3 := digs p b3 e) (x1 := digs p a1 e) (y1 := digs p b1 e) (x2 := digs p a2 e) (y2 := digs p b2 e) hp (fun i k => by
    simp only [digE]
    by_cases hi : i < e
    · by_cases hk : k < e
      · simp only [hi, hk, if_true]; exact h i k hi hk
      · exact ⟨0, by simp [hk]⟩
    · exact ⟨0, by simp [hi]⟩))
  have hlen : ∀ x y, (restL p e (m ++ [1]) (mulL p e (digs p x e) (digs p y e))).length = 2 * e ∧ ∀ z ∈ restL p e (m ++ [1]) (mulL p e (digs p x e) (digs p y e)), z < p := by
    intro x y
    have hz0 : ∀ z ∈ List.replicate (2 * e) 0, z < p := by intro z hz; rw [List.mem_replicate] at hz; omega
    have q := fold_ok (f := mulI p e (digs p x e) (digs p y e)) (p := p) (n := 2 * e) (fun out k h1 h2 => fold_ok (fun out k h1 h2 => mulK_ok hp h1 h2) _ _ h1 h2) (List.range e) (List.replicate (2 * e) 0) (by simp) hz0
    exact fold_ok (f := restI p e (m ++ [1])) (p := p) (n := 2 * e) (fun out k h1 h2 => restI_ok hp h1 h2) _ _ q.1 q.2
  have hdg : ∀ x y i, i < e → dg p (rmulF p e m x y) i = (restL p e (m ++ [1]) (mulL p e (digs p x e) (digs p y e))).getD i 0 := by
    intro x y i hi
    unfold dg rmulF
    rw [num_digit hp _ (fun z hz => (hlen x y).2 z (List.mem_of_mem_take hz))]
    simp only [List.getD_eq_getElem?_getD, List.getElem?_take, if_pos hi]
  have hlt : ∀ x y, rmulF p e m x y < p ^ e := by
    intro x y
    have := num_lt (p := p) hp ((restL p e (m ++ [1]) (mulL p e (digs p x e) (digs p y e))).take e) (fun z hz => (hlen x y).2 z (List.mem_of_mem_take hz))
    rwa [List.length_take, (hlen x y).1, Nat.min_eq_left (by omega)] at this
  refine digit_ext hp e _ _ (hlt _ _) (addF_lt hp) (fun i hi => ?_)
  refine Eq.trans ?_ (addF_dg (a := rmulF p e m a1 b1) (b := rmulF p e m a2 b2) hp hi).symm
  obtain ⟨t, ht⟩ := hL.at_ i
  rw [← hdg _ _ i hi, ← hdg _ _ i hi, ← hdg _ _ i hi] at ht
  exact mod_of hp (dg_lt hp) ht

def rmB (p e : Nat) (m : List Nat) : Bool := (List.range e).all fun i => (List.range e).all fun j => Nat.beq (rmulF p e m (p ^ i) (p ^ j)) (mulF p e m (p ^ i) (p ^ j))
theorem rmul_eq {p e : Nat} {m : List Nat} {g : Nat} {E : List Nat} (F : FT p e m g E) (hr : rmB p e m = true) (a b : Nat) (ha : a < p ^ e) (hb : b < p ^ e) : rmulF p e m a b = mulF p e m a b := by
  have hp := F.hp
  have hadd1 : ∀ a b c, rmulF p e m (addF p e a b) c = addF p e (rmulF p e m a c) (rmulF p e m b c) := fun a b c => by
    refine rmul_bil F.toFd (fun i j hi hj => ?_)
    obtain ⟨t, ht⟩ := add_dg_int (p := p) (e := e) (a := a) (b := b) hp hi
    exact ⟨t * dg p c j, by rw [ht]; grind⟩
  have hadd2 : ∀ a b c, rmulF p e m a (addF p e b c) = addF p e (rmulF p e m a b) (rmulF p e m a c) := fun a b c => by
    refine rmul_bil F.toFd (fun i j hi hj => ?_)
    obtain ⟨t, ht⟩ := add_dg_int (p := p) (e := e) (a := b) (b := c) hp hj
    exact ⟨t * dg p a i, by rw [ht]; grind⟩
  have hz : ∀ x, addF p e x x = x → x < p ^ e → x = 0 := fun x hx hlt => by
    have h1 := sub_addF (e := e) (a := x) (b := x) hp hlt
    rw [hx] at h1
    have h2 : subF p e x x = 0 := by
      refine digit_ext hp e _ _ (subF_lt hp) (Nat.pow_pos hp) (fun i hi => ?_)
      refine (subF_dg hp hi).trans ?_
      have := dg_lt (p := p) (a := x) (i := i) hp
      rw [show dg p x i + p - dg p x i = p by omega, Nat.mod_self]
      exact dg_zero.symm
    omega
  have h00 : addF p e 0 0 = 0 := addF_zero hp (Nat.pow_pos hp)
  have hlt : ∀ a b, rmulF p e m a b = 0 ∨ rmulF p e m a b < p ^ e := fun a b => by
    right
    have h := rmul_bil F.toFd (a3 := a) (b3 := b) (a1 := a) (b1 := b) (a2 := 0) (b2 := 0) (fun i j hi hj => ⟨0, by simp [dg_zero]⟩)
    rw [h]; exact addF_lt hp
  have hr0 : ∀ b, rmulF p e m 0 b = 0 := fun b => by
    have h := hadd1 0 0 b
    rw [h00] at h
    rcases hlt 0 b with h1 | h1
    · exact h1
    · exact hz _ h.symm h1
  have hr1 : ∀ a, rmulF p e m a 0 = 0 := fun a => by
    have h := hadd2 a 0 0
    rw [h00] at h
    rcases hlt a 0 with h1 | h1
    · exact h1
    · exact hz _ h.symm h1
  refine F.gen (fun a => rmulF p e m a b = mulF p e m a b) ?_ (fun i hi => ?_) (fun x y hx hy => ?_) a ha
  · rw [hr0, mul_zeroF F.toFd _ _ (.inl rfl)]
  · refine F.gen (fun b => rmulF p e m (p ^ i) b = mulF p e m (p ^ i) b) ?_ (fun j hj => ?_) (fun x y hx hy => ?_) b hb
    · rw [hr1, mul_zeroF F.toFd _ _ (.inr rfl)]
    · exact Nat.eq_of_beq_eq_true (List.all_eq_true.1 (List.all_eq_true.1 hr i (List.mem_range.2 hi)) j (List.mem_range.2 hj))
    · rw [hadd2, mul_addF F.toFd, hx, hy]
  · rw [hadd1, add_mulF F.toFd, hx, hy]
theorem rsub_eq {p e a b : Nat} (hp : 0 < p) : addF p e a (negF p e b) = subF p e a b := by
  have hneg : ∀ i, i < e → dg p (negF p e b) i = (p - dg p b i) % p := by
    intro i hi
    have hl : ∀ z ∈ negL p (digs p b e), z < p := by
      intro z hz
      simp only [negL, List.mem_map] at hz
      obtain ⟨w, _, rfl⟩ := hz
      exact Nat.mod_lt _ hp
    unfold negF
    have h1 := num_digit hp (negL p (digs p b e)) hl i
    refine h1.trans ?_
    have l1 := digs_length p e b
    have h2 : dg p b i = (digs p b e).getD i 0 := (digs_getD p e b i hi).symm
    rw [h2]
    simp only [negL, List.getD_eq_getElem?_getD, List.getElem?_map]
    rw [List.getElem?_eq_getElem (by omega)]
    rfl
  refine digit_ext hp e _ _ (addF_lt hp) (subF_lt hp) (fun i hi => ?_)
  refine (addF_dg hp hi).trans (Eq.trans ?_ (subF_dg hp hi).symm)
  rw [hneg i hi, Nat.add_mod_mod]
  have := dg_lt (p := p) (a := b) (i := i) hp
  congr 1; omega
end Go.Sim
