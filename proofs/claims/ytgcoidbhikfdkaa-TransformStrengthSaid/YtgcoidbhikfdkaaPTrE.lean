/- Part of the proof: TrE. -/
import Derived.Test.YtgcoidbhikfdkaaPTrPToTrK
set_option linter.all false
namespace Go.Sim.Kr
def vl (q : Nat) (n : Nat) (s x : Nat → Nat) : Nat := match n with
  | 0 => 0
  | n + 1 => if s n = 1 then q * vl q n s x + x n else vl q n s x
theorem vl_lt {q n : Nat} {s x : Nat → Nat} (hx : ∀ c, c < n → x c < q) : vl q n s x < q ^ pc n s := by
  induction n with
  | zero => simp [vl, pc]
  | succ n ih =>
    have h1 := ih fun c hc => hx c (by omega)
    have h2 := hx n (by omega)
    simp only [vl, pc]
    by_cases e : s n = 1
    · simp only [e, ↓reduceIte]
      rw [Nat.pow_succ]
      have : q * (vl q n s x + 1) ≤ q * q ^ pc n s := Nat.mul_le_mul_left q h1
      rw [Nat.mul_comm (q ^ pc n s)]
      rw [Nat.mul_add] at this
      omega
    · simp only [e, ↓reduceIte, Nat.add_zero]; exact h1
theorem vl_eq {q n : Nat} {s x u : Nat → Nat} (hx : ∀ c, c < n → x c < q) (hu : ∀ c, c < n → u c < q) : Pr n s (fun c => if x c = u c then 1 else 0) = if vl q n s x = vl q n s u then 1 else 0 := by
  unfold Pr
  induction n with
  | zero => rfl
  | succ n ih =>
    simp only [Pd, vl]
    rw [ih (fun c hc => hx c (by omega)) (fun c hc => hu c (by omega))]
    have h1 := hx n (by omega)
    have h2 := hu n (by omega)
    by_cases e : s n = 1
    · simp only [e, ↓reduceIte]
      have key : (q * vl q n s x + x n = q * vl q n s u + u n) ↔ (vl q n s x = vl q n s u ∧ x n = u n) := by
        constructor
        · intro h
          have a1 : (q * vl q n s x + x n) / q = vl q n s x := by rw [Nat.mul_add_div (by omega), Nat.div_eq_of_lt h1]; rfl
          have a2 : (q * vl q n s u + u n) / q = vl q n s u := by rw [Nat.mul_add_div (by omega), Nat.div_eq_of_lt h2]; rfl
          have a3 : vl q n s x = vl q n s u := by rw [← a1, ← a2, h]
          exact ⟨a3, by rw [a3] at h; omega⟩
        · rintro ⟨h, h'⟩; rw [h, h']
      simp only [key]
      by_cases e1 : vl q n s x = vl q n s u <;> by_cases e2 : x n = u n <;> simp [e1, e2]
    · simp only [e, ↓reduceIte, Int.mul_one]
theorem vl_sur {q : Nat} (hq : 0 < q) (n : Nat) (s : Nat → Nat) : ∀ v, v < q ^ pc n s → ∃ u : Nat → Nat, (∀ c, c < n → u c < q) ∧ vl q n s u = v := by
  have hup : ∀ n (u : Nat → Nat) a, vl q n s (up u n a) = vl q n s u := by
    intro n u a
    have : ∀ k, k ≤ n → vl q k s (up u n a) = vl q k s u := by
      intro k
      induction k with
      | zero => intro _; rfl
      | succ k ih => intro hk; simp only [vl]; rw [ih (by omega), show up u n a k = u k by unfold up; simp [show k ≠ n by omega]]
    exact this n (Nat.le_refl _)
  induction n with
  | zero => intro v hv; simp [pc] at hv; exact ⟨fun _ => 0, fun c hc => by omega, by simp [vl, hv]⟩
  | succ n ih =>
    intro v hv
    simp only [pc] at hv
    by_cases e : s n = 1
    · simp only [e, ↓reduceIte] at hv
      obtain ⟨u, hu, h⟩ := ih (v / q) (by rw [Nat.pow_succ] at hv; exact (Nat.div_lt_iff_lt_mul hq).2 hv)
      refine ⟨up u n (v % q), ?_, ?_⟩
      · intro c hc
        unfold up
        by_cases e1 : c = n
        · simp [e1]; exact Nat.mod_lt _ hq
        · simp [e1]; exact hu c (by omega)
      · simp only [vl, e, ↓reduceIte, hup, h]
        simp only [up, ↓reduceIte]; exact Nat.div_add_mod v q
    · simp only [e, ↓reduceIte, Nat.add_zero] at hv
      obtain ⟨u, hu, h⟩ := ih v hv
      refine ⟨up u n 0, ?_, ?_⟩
      · intro c hc
        unfold up
        by_cases e1 : c = n
        · simp [e1]; exact hq
        · simp [e1]; exact hu c (by omega)
      · simp only [vl, e, ↓reduceIte, hup, h]
def bt (b : Nat) : Nat → Nat := fun c => b / 2 ^ c % 2
theorem bt_ex (t : Nat → Nat) : ∀ n, (∀ c, c < n → t c < 2) → ∃ b, b < 2 ^ n ∧ ∀ c, c < n → bt b c = t c := by
  intro n
  induction n with
  | zero => intro _; exact ⟨0, by simp, fun c hc => by omega⟩
  | succ n ih =>
    intro ht
    obtain ⟨b, hb, h⟩ := ih fun c hc => ht c (by omega)
    have h1 := ht n (by omega)
    refine ⟨b + t n * 2 ^ n, ?_, ?_⟩
    · rw [Nat.pow_succ]
      rcases (show t n = 0 ∨ t n = 1 by omega) with e | e <;> simp [e] <;> omega
    · intro c hc
      unfold bt
      by_cases e : c = n
      · subst e
        rw [Nat.add_mul_div_right _ _ (Nat.two_pow_pos c), Nat.div_eq_of_lt hb]; omega
      · rw [← h c (by omega)]
        unfold bt
        obtain ⟨d, rfl⟩ : ∃ d, n = c + 1 + d := ⟨n - c - 1, by omega⟩
        rw [show t (c + 1 + d) * 2 ^ (c + 1 + d) = (t (c + 1 + d) * 2 ^ d * 2) * 2 ^ c by rw [Nat.pow_add, Nat.pow_add, Nat.pow_one, Nat.mul_comm (2 ^ c), Nat.mul_assoc, Nat.mul_assoc, Nat.mul_assoc, Nat.mul_comm (2 ^ c), ← Nat.mul_assoc 2, Nat.mul_comm 2]; simp [Nat.mul_assoc], Nat.add_mul_div_right _ _ (Nat.two_pow_pos c)]
        omega
def cn : Nat → (Nat → Bool) → Nat
  | 0, _ => 0
  | m + 1, p => cn m p + if p m then 1 else 0
theorem cn_sm (m : Nat) (p : Nat → Bool) : (cn m p : Int) = sm m fun i => if p i then 1 else 0 := by
  induction m with
  | zero => rfl
  | succ m ih => simp only [cn, sm, ← ih]; cases p m <;> simp
theorem cn_congr {m : Nat} {p p' : Nat → Bool} (h : ∀ i, i < m → p i = p' i) : cn m p = cn m p' := by
  induction m with
  | zero => rfl
  | succ m ih => simp only [cn]; rw [ih fun i hi => h i (by omega), h m (by omega)]
def evenP (q n m : Nat) (w : Nat → Nat → Nat) (k : Nat) : Prop :=
  m % q ^ k = 0 ∧ ∀ b, b < 2 ^ n → pc n (bt b) = k → ∀ v, v < q ^ k → cn m (fun i => decide (vl q n (bt b) (w i) = v)) = m / q ^ k
theorem Ct_cn {q n m : Nat} {w : Nat → Nat → Nat} (hw : Wd q n m w) (t u : Nat → Nat) (hu : ∀ c, c < n → u c < q) : Ct n m w t u = cn m fun i => decide (vl q n t (w i) = vl q n t u) := by
  rw [cn_sm]
  unfold Ct
  refine sm_congr fun i hi => ?_
  rw [vl_eq (hw i hi) hu]
  simp only [decide_eq_true_eq]
theorem vl_congr {q n : Nat} {s t : Nat → Nat} (h : ∀ c, c < n → s c = t c) (x : Nat → Nat) : vl q n s x = vl q n t x := by
  induction n with
  | zero => rfl
  | succ n ih => simp only [vl]; rw [ih fun c hc => h c (by omega), h n (by omega)]
theorem even_iff {q n m : Nat} {w : Nat → Nat → Nat} (hq : 0 < q) (hw : Wd q n m w) {k : Nat} (hk : k ≤ n) : evenP q n m w k ↔ ∀ j, 1 ≤ j → j ≤ k → Bz q n m w j = 0 := by
  rw [strength q n m w hq hw k hk]
  have hp : 0 < q ^ k := Nat.pow_pos hq
  constructor
  · rintro ⟨h1, h2⟩
    refine ⟨(m / q ^ k : Nat), ?_, ?_⟩
    · have h3 := Nat.div_add_mod m (q ^ k)
      rw [h1, Nat.add_zero] at h3
      have : ((q ^ k * (m / q ^ k) : Nat) : Int) = (m : Nat) := by rw [h3]
      rw [← this]; simp
    · intro t ht hkt u hu
      obtain ⟨b, hb, hbt⟩ := bt_ex t n ht
      rw [Ct_cn hw t u hu]
      have := h2 b hb (by rw [pc_congr hbt, hkt]) (vl q n t u) (by rw [← hkt]; exact vl_lt hu)
      rw [← this]
      congr 1
      refine cn_congr fun i _ => ?_
      rw [vl_congr hbt]
  · rintro ⟨a, ha, h⟩
    have ha0 : 0 ≤ a := by
      rcases Int.lt_or_le a 0 with h' | h'
      · have := Int.mul_neg_of_pos_of_neg (show (0 : Int) < (q : Int) ^ k from Int.pow_pos (by omega)) h'; omega
      · exact h'
    obtain ⟨a, rfl⟩ := Int.eq_ofNat_of_zero_le ha0
    have ha' : q ^ k * a = m := by
      have : ((q ^ k * a : Nat) : Int) = (m : Nat) := by rw [← ha]; simp
      exact Int.ofNat_inj.1 this
    refine ⟨by rw [← ha']; exact Nat.mul_mod_right _ _, ?_⟩
    intro b hb hk v hv
    have hbt : ∀ c, c < n → bt b c < 2 := fun c _ => Nat.mod_lt _ (by omega)
    obtain ⟨u, hu, hv'⟩ := vl_sur hq n (bt b) v (by rw [hk]; exact hv)
    have h1 := h (bt b) hbt hk u hu
    rw [Ct_cn hw _ u hu, hv'] at h1
    rw [show m / q ^ k = a by rw [← ha', Nat.mul_div_cancel_left _ hp]]
    exact Int.ofNat_inj.1 h1
end Go.Sim.Kr
