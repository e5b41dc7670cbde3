/- The plain law of the fields, part 2: sums, products and powers. -/
import Derived.Test.YtaepmmdbhikjlaaFieldR
namespace Go.Sim

theorem addF_comm {p e : Nat} (hp : 0 < p) (a b : Nat) : addF p e a b = addF p e b a :=
  digit_ext hp e _ _ (addF_lt hp) (addF_lt hp) (fun i hi => by
    have h1 := addF_dg (p := p) (e := e) (a := a) (b := b) hp hi
    have h2 := addF_dg (p := p) (e := e) (a := b) (b := a) hp hi
    rw [Nat.add_comm] at h2
    exact h1.trans h2.symm)
theorem addF_assoc {p e : Nat} (hp : 0 < p) (a b c : Nat) : addF p e (addF p e a b) c = addF p e a (addF p e b c) :=
  digit_ext hp e _ _ (addF_lt hp) (addF_lt hp) (fun i hi => by
    have h1 := addF_dg (p := p) (e := e) (a := addF p e a b) (b := c) hp hi
    have h2 := addF_dg (p := p) (e := e) (a := a) (b := addF p e b c) hp hi
    rw [addF_dg (a := a) (b := b) hp hi] at h1
    rw [addF_dg (a := b) (b := c) hp hi] at h2
    rw [Nat.mod_add_mod, Nat.add_assoc] at h1
    rw [Nat.add_mod_mod] at h2
    exact h1.trans h2.symm)
theorem addF_zero {p e a : Nat} (hp : 0 < p) (ha : a < p ^ e) : addF p e a 0 = a :=
  digit_ext hp e _ _ (addF_lt hp) ha (fun i hi => by
    have h1 := addF_dg (p := p) (e := e) (a := a) (b := 0) hp hi
    rw [dg_zero, Nat.add_zero, Nat.mod_eq_of_lt (dg_lt hp)] at h1
    exact h1)
theorem subL_length {p e a b : Nat} : (subL p (digs p a e) (digs p b e)).length = e := by simp [subL, digs_length]
theorem subL_lt {p : Nat} (hp : 0 < p) {x y : List Nat} : ∀ z ∈ subL p x y, z < p := by
  intro z hz
  simp only [subL] at hz
  obtain ⟨i, hi, rfl⟩ := List.getElem_of_mem hz
  simp only [List.getElem_zipWith]
  exact Nat.mod_lt _ hp
theorem subF_lt {p e a b : Nat} (hp : 0 < p) : subF p e a b < p ^ e := by
  have := num_lt (p := p) hp (subL p (digs p a e) (digs p b e)) (subL_lt hp)
  rwa [subL_length] at this
theorem subF_dg {p e a b i : Nat} (hp : 0 < p) (hi : i < e) : dg p (subF p e a b) i = (dg p a i + p - dg p b i) % p := by
  have key : (subL p (digs p a e) (digs p b e)).getD i 0 = ((digs p a e).getD i 0 + p - (digs p b e).getD i 0) % p := by
    have l1 := digs_length p e a
    have l2 := digs_length p e b
    simp only [subL, List.getD_eq_getElem?_getD, List.getElem?_zipWith]
    rw [List.getElem?_eq_getElem (by omega), List.getElem?_eq_getElem (by omega)]
    rfl
  unfold dg subF
  rw [num_digit hp _ (subL_lt hp), key, digs_getD p e a i hi, digs_getD p e b i hi]
theorem sub_addF {p e a b : Nat} (hp : 0 < p) (ha : a < p ^ e) : subF p e (addF p e a b) b = a :=
  digit_ext hp e _ _ (subF_lt hp) ha (fun i hi => by
    have h1 := subF_dg (p := p) (e := e) (a := addF p e a b) (b := b) hp hi
    rw [addF_dg hp hi] at h1
    have ha := dg_lt (p := p) (a := a) (i := i) hp
    have hb := dg_lt (p := p) (a := b) (i := i) hp
    refine Eq.trans h1 ?_
    show _ = dg p a i
    generalize dg p a i = x at *
    generalize dg p b i = y at *
    rcases Nat.lt_or_ge (x + y) p with h | h
    · rw [Nat.mod_eq_of_lt h, show x + y + p - y = x + p by omega, Nat.add_mod_right, Nat.mod_eq_of_lt ha]
    · rw [Nat.mod_eq_sub_mod h, Nat.mod_eq_of_lt (show x + y - p < p by omega), show x + y - p + p - y = x by omega, Nat.mod_eq_of_lt ha])
theorem add_negF {p e a : Nat} (hp : 0 < p) : addF p e a (subF p e 0 a) = 0 :=
  digit_ext hp e _ _ (addF_lt hp) (Nat.pow_pos hp) (fun i hi => by
    have h1 := addF_dg (p := p) (e := e) (a := a) (b := subF p e 0 a) hp hi
    rw [subF_dg hp hi, dg_zero, Nat.add_mod_mod] at h1
    have ha := dg_lt (p := p) (a := a) (i := i) hp
    rw [show dg p a i + (0 + p - dg p a i) = p by omega, Nat.mod_self] at h1
    exact h1.trans dg_zero.symm)

/-! ### what a field's table shows -/
def genB (p e : Nat) : Bool := (List.range (p ^ e)).all fun a => Nat.beq a 0 || (List.range e).any fun i => Nat.ble (p ^ i) a && Nat.beq (addF p e (a - p ^ i) (p ^ i)) a
theorem gen {p e : Nat} (hp : 0 < p) (hB : genB p e = true) (P : Nat → Prop) (h0 : P 0) (hb : ∀ i, i < e → P (p ^ i)) (ha : ∀ a b, P a → P b → P (addF p e a b)) : ∀ n a, a < n → a < p ^ e → P a
  | 0, _, h, _ => by omega
  | n + 1, a, hn, hq => by
    have h := List.all_eq_true.1 hB a (List.mem_range.2 hq)
    simp only [Bool.or_eq_true, List.any_eq_true, Bool.and_eq_true, List.mem_range] at h
    rcases h with h | ⟨i, hi, h1, h2⟩
    · rw [Nat.eq_of_beq_eq_true h]; exact h0
    · have h1 := Nat.le_of_ble_eq_true h1
      have hpos : 0 < p ^ i := Nat.pow_pos hp
      rw [← Nat.eq_of_beq_eq_true h2]
      exact ha _ _ (gen hp hB P h0 hb ha n _ (by omega) (by omega)) (hb i hi)

/-- On the powers of x: products commute, x passes through, 1 is neutral, x times one is the next. -/
def basB (p e : Nat) (m : List Nat) : Bool := (List.range e).all fun i =>
  Nat.beq (mulF p e m 1 (p ^ i)) (p ^ i) && (Nat.beq (i + 1) e || Nat.beq (mulF p e m p (p ^ i)) (p ^ (i + 1))) &&
  (List.range e).all fun j => Nat.beq (mulF p e m (p ^ i) (p ^ j)) (mulF p e m (p ^ j) (p ^ i)) && Nat.beq (mulF p e m (mulF p e m p (p ^ i)) (p ^ j)) (mulF p e m p (mulF p e m (p ^ i) (p ^ j)))
/-- The powers of a primitive element. -/
def expB (p e : Nat) (m : List Nat) (g : Nat) (E : List Nat) : Bool :=
  Nat.beq E.length (p ^ e - 1) && Nat.beq (E.getD 0 0) 1 &&
  (List.range (p ^ e - 1)).all (fun k => Nat.blt (E.getD k 0) (p ^ e) && (Nat.beq k 0 || !Nat.beq (E.getD k 0) 1) && !Nat.beq (E.getD k 0) 0 && Nat.beq (mulF p e m g (E.getD k 0)) (E.getD ((k + 1) % (p ^ e - 1)) 0)) &&
  (List.range (p ^ e)).all (fun a => Nat.beq a 0 || (List.range (p ^ e - 1)).any fun k => Nat.beq (E.getD k 0) a) && Nat.blt g (p ^ e)

structure FT (p e : Nat) (m : List Nat) (g : Nat) (E : List Nat) : Prop extends Fd p e m where
  gn : genB p e = true
  bs : basB p e m = true
  ex : expB p e m g E = true

section
variable {p e : Nat} {m : List Nat} {g : Nat} {E : List Nat} (F : FT p e m g E)
include F
theorem FT.hp : 0 < p := by have := F.p2; omega
theorem FT.q2 : 2 ≤ p ^ e := Nat.le_trans F.p2 (by simpa using Nat.pow_le_pow_right F.hp F.e1)
theorem FT.gen (P : Nat → Prop) (h0 : P 0) (hb : ∀ i, i < e → P (p ^ i)) (ha : ∀ a b, P a → P b → P (addF p e a b)) (a : Nat) (h : a < p ^ e) : P a := Sim.gen F.hp F.gn P h0 hb ha _ a h h
theorem FT.bas (i : Nat) (hi : i < e) : mulF p e m 1 (p ^ i) = p ^ i ∧ (i + 1 < e → mulF p e m p (p ^ i) = p ^ (i + 1)) ∧ ∀ j, j < e → mulF p e m (p ^ i) (p ^ j) = mulF p e m (p ^ j) (p ^ i) ∧ mulF p e m (mulF p e m p (p ^ i)) (p ^ j) = mulF p e m p (mulF p e m (p ^ i) (p ^ j)) := by
  have h := List.all_eq_true.1 F.bs i (List.mem_range.2 hi)
  simp only [Bool.and_eq_true, Bool.or_eq_true, List.all_eq_true, List.mem_range] at h
  obtain ⟨⟨h1, h2⟩, h3⟩ := h
  refine ⟨Nat.eq_of_beq_eq_true h1, fun hlt => ?_, fun j hj => ⟨Nat.eq_of_beq_eq_true (h3 j hj).1, Nat.eq_of_beq_eq_true (h3 j hj).2⟩⟩
  rcases h2 with h2 | h2
  · have := Nat.eq_of_beq_eq_true h2; omega
  · exact Nat.eq_of_beq_eq_true h2
theorem FT.mul_comm (a b : Nat) (ha : a < p ^ e) (hb : b < p ^ e) : mulF p e m a b = mulF p e m b a := by
  have Z := fun a b h => mul_zeroF F.toFd a b h
  refine F.gen (fun a => mulF p e m a b = mulF p e m b a) ?_ (fun i hi => ?_) (fun x y hx hy => ?_) a ha
  · rw [Z 0 b (.inl rfl), Z b 0 (.inr rfl)]
  · refine F.gen (fun b => mulF p e m (p ^ i) b = mulF p e m b (p ^ i)) ?_ (fun j hj => ((F.bas i hi).2.2 j hj).1) (fun x y hx hy => ?_) b hb
    · rw [Z _ 0 (.inr rfl), Z 0 _ (.inl rfl)]
    · rw [mul_addF F.toFd, add_mulF F.toFd, hx, hy]
  · rw [mul_addF F.toFd, add_mulF F.toFd, hx, hy]
theorem FT.one_mul (a : Nat) (ha : a < p ^ e) : mulF p e m 1 a = a := by
  have Z := fun a b h => mul_zeroF F.toFd a b h
  refine F.gen (fun a => mulF p e m 1 a = a) (Z _ _ (.inr rfl)) (fun i hi => (F.bas i hi).1) (fun x y hx hy => ?_) a ha
  rw [mul_addF F.toFd, hx, hy]
theorem FT.x_assoc (a b : Nat) (ha : a < p ^ e) (hb : b < p ^ e) : mulF p e m (mulF p e m p a) b = mulF p e m p (mulF p e m a b) := by
  have Z := fun a b h => mul_zeroF F.toFd a b h
  refine F.gen (fun a => mulF p e m (mulF p e m p a) b = mulF p e m p (mulF p e m a b)) ?_ (fun i hi => ?_) (fun x y hx hy => ?_) a ha
  · rw [Z _ 0 (.inr rfl), Z 0 b (.inl rfl), Z _ 0 (.inr rfl)]
  · refine F.gen (fun b => mulF p e m (mulF p e m p (p ^ i)) b = mulF p e m p (mulF p e m (p ^ i) b)) ?_ (fun j hj => ((F.bas i hi).2.2 j hj).2) (fun x y hx hy => ?_) b hb
    · rw [Z _ 0 (.inr rfl), Z _ 0 (.inr rfl), Z _ 0 (.inr rfl)]
    · rw [mul_addF F.toFd, mul_addF F.toFd, mul_addF F.toFd, hx, hy]
  · rw [mul_addF F.toFd, add_mulF F.toFd, add_mulF F.toFd, mul_addF F.toFd, hx, hy]
theorem FT.mul_lt (a b : Nat) : mulF p e m a b < p ^ e := mulF_lt F.p2 F.e6 a b
theorem FT.mul_assoc (a b c : Nat) (ha : a < p ^ e) (hb : b < p ^ e) (hc : c < p ^ e) : mulF p e m (mulF p e m a b) c = mulF p e m a (mulF p e m b c) := by
  have Z := fun a b h => mul_zeroF F.toFd a b h
  refine F.gen (fun a => mulF p e m (mulF p e m a b) c = mulF p e m a (mulF p e m b c)) ?_ (fun i => ?_) (fun x y hx hy => ?_) a ha
  · rw [Z 0 b (.inl rfl), Z 0 c (.inl rfl), Z 0 _ (.inl rfl)]
  · induction i with
    | zero => intro _; rw [Nat.pow_zero, F.one_mul b hb, F.one_mul _ (F.mul_lt _ _)]
    | succ i ih =>
      intro hi
      rw [← (F.bas i (by omega)).2.1 hi]
      have hpi : p ^ i < p ^ e := Nat.pow_lt_pow_right (by have := F.p2; omega) (by omega)
      rw [F.x_assoc _ b hpi hb, F.x_assoc _ c (F.mul_lt _ _) hc, ih (by omega), F.x_assoc _ _ hpi (F.mul_lt _ _)]
  · rw [add_mulF F.toFd, add_mulF F.toFd, add_mulF F.toFd, hx, hy]
theorem FT.mul_one (a : Nat) (ha : a < p ^ e) : mulF p e m a 1 = a := by
  rw [F.mul_comm a 1 ha (by have := F.q2; omega), F.one_mul a ha]

theorem FT.exs : E.getD 0 0 = 1 ∧ (∀ k, k < p ^ e - 1 → E.getD k 0 < p ^ e ∧ (k ≠ 0 → E.getD k 0 ≠ 1) ∧ E.getD k 0 ≠ 0 ∧ mulF p e m g (E.getD k 0) = E.getD ((k + 1) % (p ^ e - 1)) 0) ∧
    (∀ a, a < p ^ e → a ≠ 0 → ∃ k, k < p ^ e - 1 ∧ E.getD k 0 = a) ∧ g < p ^ e := by
  have h := F.ex
  simp only [expB, Bool.and_eq_true, List.all_eq_true, Bool.or_eq_true, List.any_eq_true, List.mem_range, Bool.not_eq_true'] at h
  obtain ⟨⟨⟨⟨h1, h2⟩, h3⟩, h4⟩, h5⟩ := h
  refine ⟨Nat.eq_of_beq_eq_true h2, fun k hk => ?_, fun a ha h0 => ?_, ?_⟩
  · obtain ⟨⟨⟨q1, q2⟩, q3⟩, q4⟩ := h3 k hk
    refine ⟨Nat.lt_of_lt_of_le (Nat.lt_succ_self _) (Nat.le_of_ble_eq_true q1), fun hk0 h1 => ?_, fun h0 => ?_, Nat.eq_of_beq_eq_true q4⟩
    · rcases q2 with q2 | q2
      · exact hk0 (Nat.eq_of_beq_eq_true q2)
      · rw [h1] at q2; cases q2
    · rw [h0] at q3; cases q3
  · rcases h4 a ha with h | ⟨k, hk, h⟩
    · exact absurd (Nat.eq_of_beq_eq_true h) h0
    · exact ⟨k, hk, Nat.eq_of_beq_eq_true h⟩
  · exact Nat.lt_of_lt_of_le (Nat.lt_succ_self _) (Nat.le_of_ble_eq_true h5)

/-- Powers. -/
def pw (p e : Nat) (m : List Nat) (a : Nat) : Nat → Nat
  | 0 => 1
  | n + 1 => mulF p e m a (pw p e m a n)
omit F in
theorem pw_lt (hq : 2 ≤ p ^ e) (hp : 2 ≤ p) (he : e ≤ 6) (a : Nat) : ∀ n, pw p e m a n < p ^ e
  | 0 => hq
  | _ + 1 => mulF_lt hp he _ _
theorem FT.pw_lt (a n : Nat) : pw p e m a n < p ^ e := Sim.pw_lt F.q2 F.p2 F.e6 a n
theorem FT.pw_add (a : Nat) (ha : a < p ^ e) (n : Nat) : ∀ k, pw p e m a (k + n) = mulF p e m (pw p e m a k) (pw p e m a n)
  | 0 => by rw [Nat.zero_add, pw, F.one_mul _ (F.pw_lt a n)]
  | k + 1 => by
    rw [Nat.add_right_comm, pw, FT.pw_add a ha n k, pw, F.mul_assoc _ _ _ ha (F.pw_lt a k) (F.pw_lt a n)]
theorem FT.pw_one (a : Nat) (ha : a < p ^ e) : pw p e m a 1 = a := by rw [pw, pw, F.mul_one a ha]
theorem FT.pw_mul (a : Nat) (ha : a < p ^ e) (n : Nat) : ∀ k, pw p e m a (k * n) = pw p e m (pw p e m a n) k
  | 0 => by simp [pw]
  | k + 1 => by rw [Nat.succ_mul, Nat.add_comm, F.pw_add a ha, FT.pw_mul a ha n k, pw]
theorem FT.one_pw : ∀ n, pw p e m 1 n = 1
  | 0 => rfl
  | n + 1 => by rw [pw, FT.one_pw n, F.one_mul 1 (by have := F.q2; omega)]
theorem FT.powR (f : Nat) : ∀ out a n, out < p ^ e → a < p ^ e → n ≤ f → powR p e m f out a n = mulF p e m out (pw p e m a n) := by
  induction f with
  | zero => intro out a n ho ha hn; obtain rfl : n = 0 := by omega
            rw [Sim.powR, pw, F.mul_one out ho]
  | succ f ih =>
    intro out a n ho ha hn
    rw [Sim.powR]
    by_cases h0 : n = 0
    · subst h0; rw [if_pos rfl, pw, F.mul_one out ho]
    · rw [if_neg h0, ih _ _ _ (by split; exact F.mul_lt _ _; exact ho) (F.mul_lt _ _) (by omega)]
      have hsq : pw p e m (mulF p e m a a) (n / 2) = pw p e m a (n / 2 + n / 2) := by
        have h2 : mulF p e m a a = pw p e m a 2 := by rw [pw, F.pw_one a ha]
        rw [h2, ← F.pw_mul a ha 2 (n / 2)]; congr 1; omega
      rw [hsq]
      by_cases h1 : n % 2 = 1
      · rw [if_pos h1, F.mul_assoc _ _ _ ho ha (F.pw_lt _ _)]
        congr 1
        rw [show n = (n / 2 + n / 2) + 1 by omega, pw]
        congr 2; omega
      · rw [if_neg h1]; congr 2; omega
theorem FT.powF (a n : Nat) (ha : a < p ^ e) : powF p e m a n = pw p e m a n := by
  rw [Sim.powF, F.powR n 1 a n (by have := F.q2; omega) ha (Nat.le_refl _), F.one_mul _ (F.pw_lt _ _)]
/-- The element with the exponent k. -/
theorem FT.pw_g (k : Nat) : pw p e m g k = E.getD (k % (p ^ e - 1)) 0 := by
  obtain ⟨h0, h1, _, hg⟩ := F.exs
  have := F.q2
  induction k with
  | zero => rw [Nat.zero_mod, h0]; rfl
  | succ k ih =>
    rw [pw, ih, (h1 _ (Nat.mod_lt _ (by omega))).2.2.2, Nat.mod_add_mod]
theorem FT.log (a : Nat) (ha : a < p ^ e) (h0 : a ≠ 0) : ∃ k, k < p ^ e - 1 ∧ a = pw p e m g k := by
  obtain ⟨_, _, h2, _⟩ := F.exs
  obtain ⟨k, hk, rfl⟩ := h2 a ha h0
  exact ⟨k, hk, by rw [F.pw_g, Nat.mod_eq_of_lt hk]⟩
theorem FT.pw_g_ne (k : Nat) : pw p e m g k ≠ 0 := by
  have := F.q2
  rw [F.pw_g]
  exact (F.exs.2.1 _ (Nat.mod_lt _ (by omega))).2.2.1
theorem FT.pw_g_one (k : Nat) : pw p e m g k = 1 ↔ k % (p ^ e - 1) = 0 := by
  have := F.q2
  rw [F.pw_g]
  constructor
  · intro h
    by_cases h0 : k % (p ^ e - 1) = 0
    · exact h0
    · exact absurd h ((F.exs.2.1 _ (Nat.mod_lt _ (by omega))).2.1 h0)
  · intro h; rw [h]; exact F.exs.1
theorem FT.pw_q (a : Nat) (ha : a < p ^ e) (h0 : a ≠ 0) : pw p e m a (p ^ e - 1) = 1 := by
  obtain ⟨k, hk, rfl⟩ := F.log a ha h0
  rw [← F.pw_mul g F.exs.2.2.2, F.pw_g_one, Nat.mul_mod_right]
theorem FT.pw_mod (a : Nat) (ha : a < p ^ e) (h0 : a ≠ 0) (n : Nat) : pw p e m a n = pw p e m a (n % (p ^ e - 1)) := by
  have h := Nat.div_add_mod n (p ^ e - 1)
  have h1 : pw p e m a ((p ^ e - 1) * (n / (p ^ e - 1))) = 1 := by rw [Nat.mul_comm, F.pw_mul a ha, F.pw_q a ha h0, F.one_pw]
  have h2 : pw p e m a n = pw p e m a ((p ^ e - 1) * (n / (p ^ e - 1)) + n % (p ^ e - 1)) := by rw [h]
  rw [h2, F.pw_add a ha, h1, F.one_mul _ (F.pw_lt _ _)]
theorem FT.mul_ne (a b : Nat) (ha : a < p ^ e) (hb : b < p ^ e) (h1 : a ≠ 0) (h2 : b ≠ 0) : mulF p e m a b ≠ 0 := by
  obtain ⟨i, _, rfl⟩ := F.log a ha h1
  obtain ⟨j, _, rfl⟩ := F.log b hb h2
  rw [← F.pw_add g F.exs.2.2.2]
  exact F.pw_g_ne _
theorem FT.pw_ne (a n : Nat) (ha : a < p ^ e) (h1 : a ≠ 0) : pw p e m a n ≠ 0 := by
  obtain ⟨i, _, rfl⟩ := F.log a ha h1
  rw [← F.pw_mul g F.exs.2.2.2]
  exact F.pw_g_ne _
theorem FT.mul_inv (a : Nat) (ha : a < p ^ e) (h0 : a ≠ 0) : mulF p e m a (pw p e m a (p ^ e - 2)) = 1 := by
  have h := F.pw_q a ha h0
  have := F.q2
  rw [show p ^ e - 1 = (p ^ e - 2) + 1 by omega, pw] at h
  exact h
end
end Go.Sim
