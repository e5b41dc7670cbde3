/- The plain law of the fields, part 5: orders. -/
import Derived.Test.YtaepmmdbhikjlaaPowA
namespace Go.Sim

/-- Orders, by exponents. -/
def oI (N k f : Nat) : Nat → Nat → Nat
  | 0, n => n
  | u + 1, n => if n % f = 0 ∧ (n / f * k) % N = 0 then oI N k f u (n / f) else n
def oE (N : Nat) (fs : List Nat) (k : Nat) : Nat := fs.foldl (fun n f => oI N k f n n) N
def ordB (N g : Nat) (fs E : List Nat) : Bool :=
  (List.range N).all fun k => Nat.ble 1 (oE N fs k) && Nat.ble (oE N fs k) N && Nat.beq (N % oE N fs k) 0 && Nat.beq ((oE N fs k * k) % N) 0 &&
    (List.range (oE N fs k)).all (fun i => Nat.beq i 0 || !Nat.beq ((i * k) % N) 0) && (!Nat.beq k (1 % N) || Nat.beq (oE N fs k) N) && (!Nat.blt (E.getD k 0) g || !Nat.beq (oE N fs k) N)

structure FP (p e : Nat) (m : List Nat) (g : Nat) (E fs : List Nat) : Prop extends FT p e m g E where
  fac : FacOk (p ^ e - 1) fs
  od : ordB (p ^ e - 1) g fs E = true

section
variable {p e : Nat} {m : List Nat} {g : Nat} {E fs : List Nat} (F : FP p e m g E fs)
include F
theorem FP.at (k : Nat) (hk : k < p ^ e - 1) : 1 ≤ oE (p ^ e - 1) fs k ∧ oE (p ^ e - 1) fs k ≤ p ^ e - 1 ∧ (p ^ e - 1) % oE (p ^ e - 1) fs k = 0 ∧ (oE (p ^ e - 1) fs k * k) % (p ^ e - 1) = 0 ∧
    (∀ i, i < oE (p ^ e - 1) fs k → i ≠ 0 → (i * k) % (p ^ e - 1) ≠ 0) ∧ (k = 1 % (p ^ e - 1) → oE (p ^ e - 1) fs k = p ^ e - 1) ∧ (E.getD k 0 < g → oE (p ^ e - 1) fs k ≠ p ^ e - 1) := by
  have h := List.all_eq_true.1 F.od k (List.mem_range.2 hk)
  simp only [Bool.and_eq_true, Bool.or_eq_true, List.all_eq_true, List.mem_range, Bool.not_eq_true'] at h
  obtain ⟨⟨⟨⟨⟨⟨h1, h2⟩, h3⟩, h4⟩, h5⟩, h6⟩, h7⟩ := h
  refine ⟨Nat.le_of_ble_eq_true h1, Nat.le_of_ble_eq_true h2, Nat.eq_of_beq_eq_true h3, Nat.eq_of_beq_eq_true h4, fun i hi h0 hc => ?_, fun hk => ?_, fun hlt hc => ?_⟩
  · rcases h5 i hi with h | h
    · exact h0 (Nat.eq_of_beq_eq_true h)
    · rw [hc] at h; cases h
  · rcases h6 with h | h
    · rw [hk] at h; simp at h
    · exact Nat.eq_of_beq_eq_true h
  · rcases h7 with h | h
    · have : Nat.blt (E.getD k 0) g = true := Nat.ble_eq_true_of_le hlt
      rw [this] at h; cases h
    · rw [hc] at h; simp at h
theorem FP.ordI_eq (k f : Nat) : ∀ u n, ordI p e m (pw p e m g k) f u n = oI (p ^ e - 1) k f u n
  | 0, _ => rfl
  | u + 1, n => by
    have hg := F.exs.2.2.2
    have hi : powF p e m (pw p e m g k) (n / f) = 1 ↔ (n / f * k) % (p ^ e - 1) = 0 := by
      rw [F.powF _ _ (F.pw_lt _ _), ← F.pw_mul g hg]; exact F.pw_g_one _
    rw [ordI, oI, FP.ordI_eq k f u]
    simp only [hi]
theorem FP.ordF_eq (k : Nat) : ordF p e m fs (pw p e m g k) = oE (p ^ e - 1) fs k := by
  have key : ∀ (l : List Nat) n, l.foldl (fun n f => ordI p e m (pw p e m g k) f n n) n = l.foldl (fun n f => oI (p ^ e - 1) k f n n) n := by
    intro l
    induction l with
    | nil => intro n; rfl
    | cons f l ih => intro n; rw [List.foldl_cons, List.foldl_cons, F.ordI_eq, ih]
  exact key fs _
theorem FP.ord (a : Nat) (ha : a < p ^ e) (h0 : a ≠ 0) : 1 ≤ ordV p e m fs a ∧ ordV p e m fs a ≤ p ^ e - 1 ∧ (p ^ e - 1) % ordV p e m fs a = 0 ∧ pw p e m a (ordV p e m fs a) = 1 ∧ ∀ i, i < ordV p e m fs a → i ≠ 0 → pw p e m a i ≠ 1 := by
  obtain ⟨k, hk, rfl⟩ := F.log a ha h0
  have hg := F.exs.2.2.2
  rw [ordV, if_neg h0, F.ordF_eq]
  obtain ⟨h1, h2, h3, h4, h5, _, _⟩ := F.at k hk
  refine ⟨h1, h2, h3, ?_, fun i hi hi0 => ?_⟩
  · rw [← F.pw_mul g hg, F.pw_g_one]; exact h4
  · rw [← F.pw_mul g hg, Ne, F.pw_g_one]; exact h5 i hi hi0
theorem FP.g_pos : 0 < g := by
  have h := F.pw_g_ne 1
  rw [F.pw_one g F.exs.2.2.2] at h
  omega
theorem FP.ord_g : ordV p e m fs g = p ^ e - 1 := by
  have hq2 := F.q2
  have hg := F.exs.2.2.2
  have h0 := F.g_pos
  have hk : 1 % (p ^ e - 1) < p ^ e - 1 := Nat.mod_lt _ (by omega)
  have h1 : g = pw p e m g (1 % (p ^ e - 1)) := by
    rw [← F.pw_mod g hg (by omega), F.pw_one g hg]
  rw [ordV, if_neg (by omega)]
  have h2 := F.ordF_eq (1 % (p ^ e - 1))
  rw [← h1] at h2
  rw [h2]
  exact (F.at _ hk).2.2.2.2.2.1 rfl
theorem FP.ord_lt (a : Nat) (ha : 0 < a) (hag : a < g) : ordV p e m fs a ≠ p ^ e - 1 := by
  have hg := F.exs.2.2.2
  obtain ⟨k, hk, rfl⟩ := F.log a (by omega) (by omega)
  rw [ordV, if_neg (by omega), F.ordF_eq]
  refine (F.at k hk).2.2.2.2.2.2 ?_
  rwa [F.pw_g, Nat.mod_eq_of_lt hk] at hag
theorem FP.inj (i j : Nat) (hij : i < j) (hj : j < p ^ e - 1) : pw p e m g i ≠ pw p e m g j := by
  intro h
  have hg := F.exs.2.2.2
  have hq2 := F.q2
  -- both times the power that leads i to the whole
  have h1 : pw p e m g (p ^ e - 1 - i + i) = 1 := by rw [show p ^ e - 1 - i + i = p ^ e - 1 by omega, F.pw_g_one, Nat.mod_self]
  have h2 : pw p e m g (p ^ e - 1 - i + j) = 1 := by rw [F.pw_add g hg, ← h, ← F.pw_add g hg, h1]
  rw [F.pw_g_one] at h2
  have h3 : p ^ e - 1 - i + j = (j - i) + (p ^ e - 1) := by omega
  rw [h3, Nat.add_mod_right, Nat.mod_eq_of_lt (by omega)] at h2
  omega
/-- Any exponent. -/
theorem FP.powL_int (x : Nat) (n : Int) (hx : x < p ^ e) (h0 : x ≠ 0) : powL p e m x n = ((pw p e m x (n % ((p ^ e - 1 : Nat) : Int)).toNat : Nat) : Int) := by
  have hq2 := F.q2
  have key : powZ p e m x n = (pw p e m x (n % ((p ^ e - 1 : Nat) : Int)).toNat, 0) := by
    unfold powZ
    by_cases hn : n = 0
    · subst hn; simp [pw]
    · rw [if_neg hn, if_neg h0]
      have h1 : ((p ^ e : Nat) - 1 : Int) = ((p ^ e - 1 : Nat) : Int) := by omega
      rw [h1, F.powF _ _ hx]
  unfold powL
  rw [key]
  rfl
theorem FP.pw_int (x : Nat) (a b : Int) (hx : x < p ^ e) (h0 : x ≠ 0) : mulF p e m (pw p e m x (a % ((p ^ e - 1 : Nat) : Int)).toNat) (pw p e m x (b % ((p ^ e - 1 : Nat) : Int)).toNat) = pw p e m x ((a + b) % ((p ^ e - 1 : Nat) : Int)).toNat := by
  have hq2 := F.q2
  have hN : ((p ^ e - 1 : Nat) : Int) ≠ 0 := by omega
  have ha := Int.emod_nonneg a hN
  have hb := Int.emod_nonneg b hN
  rw [← F.pw_add x hx, F.pw_mod x hx h0]
  congr 1
  have h1 : (a + b) % ((p ^ e - 1 : Nat) : Int) = (a % ((p ^ e - 1 : Nat) : Int) + b % ((p ^ e - 1 : Nat) : Int)) % ((p ^ e - 1 : Nat) : Int) := by rw [Int.emod_add_emod, Int.add_emod_emod]
  rw [h1]
  generalize a % ((p ^ e - 1 : Nat) : Int) = u at *
  generalize b % ((p ^ e - 1 : Nat) : Int) = v at *
  obtain ⟨u, rfl⟩ := Int.eq_ofNat_of_zero_le ha
  obtain ⟨v, rfl⟩ := Int.eq_ofNat_of_zero_le hb
  have h2 : ((u : Int) + v) % ((p ^ e - 1 : Nat) : Int) = (((u + v) % (p ^ e - 1) : Nat) : Int) := by rw [Int.natCast_emod, Int.natCast_add]
  rw [h2, Int.toNat_natCast, Int.toNat_natCast, Int.toNat_natCast]
theorem FP.pw_q1 (a : Nat) (ha : a < p ^ e) : pw p e m a (p ^ e) = a := by
  have hq2 := F.q2
  by_cases h0 : a = 0
  · subst h0
    obtain ⟨k, hk⟩ : ∃ k, p ^ e = k + 1 := ⟨p ^ e - 1, by omega⟩
    have : pw p e m 0 (p ^ e) = mulF p e m 0 (pw p e m 0 k) := by rw [hk, pw]
    rw [this]
    exact mul_zeroF F.toFd _ _ (.inl rfl)
  · have h := F.pw_q a ha h0
    have h2 : pw p e m a (p ^ e) = mulF p e m a (pw p e m a (p ^ e - 1)) := by
      have : p ^ e = (p ^ e - 1) + 1 := by omega
      rw [show pw p e m a (p ^ e) = pw p e m a ((p ^ e - 1) + 1) by rw [← this], pw]
    rw [h2, h, F.mul_one a ha]
theorem FP.powL_nat (x n : Nat) (hx : x < p ^ e) : powL p e m x (n : Int) = ((pw p e m x n : Nat) : Int) := by
  have hq2 := F.q2
  have key : powZ p e m x (n : Int) = (pw p e m x n, 0) := by
    unfold powZ
    by_cases hn : n = 0
    · subst hn; rfl
    · rw [if_neg (by omega)]
      by_cases h0 : x = 0
      · subst h0
        rw [if_pos rfl, if_neg (by omega)]; obtain ⟨k, rfl⟩ : ∃ k, n = k + 1 := ⟨n - 1, by omega⟩; rw [pw, mul_zeroF F.toFd _ _ (.inl rfl)]
      · rw [if_neg h0]
        have : ((n : Int) % ((p ^ e : Nat) - 1 : Int)).toNat = n % (p ^ e - 1) := by
          have h1 : ((p ^ e : Nat) - 1 : Int) = ((p ^ e - 1 : Nat) : Int) := by omega
          rw [h1, ← Int.natCast_emod]
          exact Int.toNat_natCast _
        rw [this, F.powF _ _ hx, ← F.pw_mod x hx h0]
  unfold powL
  rw [key]
  rfl
end
end Go.Sim
