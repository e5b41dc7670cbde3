/- The semantic simulation logic, part 19: loops. -/
import Derived.Test.YtaepmmdbhikjlaaSimR
namespace Go.Sim
open Go

theorem stepsX_mono {P : Program} : ∀ (l : List XS) (D : List PL) (s : St) (H : AH) (K K' : St → AH → Prop), (∀ s H, K s H → K' s H) → stepsX P l D s H K → stepsX P l D s H K'
  | [], _, s, H, K, K', hk, h => hk s H h
  | i :: l, D, s, H, K, K', hk, h => by
    unfold stepsX at h ⊢
    split at h
    · rename_i hw
      rw [if_pos hw]
      split at h
      · obtain ⟨v, h1, h2⟩ := h
        exact ⟨v, h1, stepsX_mono l _ _ _ K K' hk h2⟩
      · obtain ⟨sz, v, h0, h1, h2⟩ := h
        exact ⟨sz, v, h0, h1, stepsX_mono l _ _ _ K K' hk h2⟩
      · obtain ⟨c, e, mk, h0, h1, h2⟩ := h
        exact ⟨c, e, mk, h0, h1, stepsX_mono l _ _ _ K K' hk h2⟩
      · obtain ⟨v, H', h0, h1, h2⟩ := h
        exact ⟨v, H', h0, h1, stepsX_mono l _ _ _ K K' hk h2⟩
      · unfold callX at h ⊢
        split at h
        · exact h.mono fun v H' h => ⟨h.1, stepsX_mono l _ _ _ K K' hk h.2⟩
        · exact ⟨h.1, h.2.1, h.2.2.mono fun v H' h => ⟨h.1, stepsX_mono l _ _ _ K K' hk h.2⟩⟩
        · exact h.elim
    · rename_i hw
      rw [if_neg hw]
      exact stepsX_mono l _ _ _ K K' hk h

theorem X.mono {P : Program} {n : Nat} {ro : Option Nat} (c : XC) : ∀ {s : St} {H : AH} {Q Q' : AX → St → AH → Prop}, X P n ro c s H Q → (∀ x s H, Q x s H → Q' x s H) → X P n ro c s H Q' := by
  induction c with
  | skip => intro s H Q Q' h hq; exact hq _ _ _ h
  | exit id => intro s H Q Q' h hq; exact hq _ _ _ h
  | ret => intro s H Q Q' h hq; exact hq _ _ _ h
  | seq a b iha ihb =>
    intro s H Q Q' h hq
    refine iha h fun x s H hx => ?_
    cases x with
    | normal => exact ihb hx hq
    | exit id => exact hq _ _ _ hx
    | ret => exact hq _ _ _ hx
  | cond c a b iha ihb =>
    intro s H Q Q' h hq
    obtain ⟨t, h1, h2⟩ := h
    refine ⟨t, h1, ?_⟩
    cases t with
    | true => simp only [if_true] at h2 ⊢; exact iha h2 hq
    | false => exact ihb h2 hq
  | block id a ih =>
    intro s H Q Q' h hq
    refine ih h fun x s H hx => ?_
    cases x with
    | normal => exact hq _ _ _ hx
    | exit i =>
      simp only [AX.inBlock] at hx ⊢
      split
      · rename_i e; rw [if_pos e] at hx; exact hq _ _ _ hx
      · rename_i e; rw [if_neg e] at hx; exact hq _ _ _ hx
    | ret => exact hq _ _ _ hx
  | loop a ih =>
    intro s H Q Q' h hq
    obtain ⟨I, μ, h0, hr⟩ := h
    refine ⟨I, μ, h0, fun s H hI => ih (hr s H hI) fun x s H hx => ?_⟩
    cases x with
    | normal => exact hx
    | exit i => exact hq _ _ _ hx
    | ret => exact hq _ _ _ hx
  | reg l =>
    intro s H Q Q' h hq
    exact stepsX_mono l _ _ _ _ _ (fun s H h => hq _ _ _ h) h
  | range f ps xa xb _ _ =>
    intro s H Q Q' h hq assign body ha hb
    exact W.mono (h assign body ha hb) hq

theorem least (p : Nat → Prop) : ∀ n, p n → ∃ m, p m ∧ ∀ k, k < m → ¬ p k := by
  intro n
  induction n using Nat.strongRecOn with
  | _ n ih =>
    intro hn
    by_cases h : ∃ k, k < n ∧ p k
    · obtain ⟨k, h1, h2⟩ := h; exact ih k h1 h2
    · exact ⟨n, hn, fun k hk hp => h ⟨k, hk, hp⟩⟩

open Classical in
/-- A loop: I m: at most m rounds remain. -/
theorem loop_ind {P : Program} {n : Nat} {ro : Option Nat} {c : XC} {s : St} {H : AH} {Q : AX → St → AH → Prop} (I : Nat → St → AH → Prop) (m : Nat) (h0 : I m s H)
    (hr : ∀ m s H, I m s H → X P n ro c s H (AX.then (fun s' H' => ∃ m', m' < m ∧ I m' s' H') Q)) : loopX (X P n ro c) s H Q := by
  refine ⟨fun s H => ∃ m, I m s H, fun s H => if h : ∃ m, I m s H then Classical.choose (least (fun m => I m s H) (Classical.choose h) (Classical.choose_spec h)) else 0, ⟨m, h0⟩, fun s H hI => ?_⟩
  have hl := Classical.choose_spec (least (fun m => I m s H) (Classical.choose hI) (Classical.choose_spec hI))
  refine X.mono c (hr _ s H hl.1) fun x s' H' hx => ?_
  cases x with
  | normal =>
    obtain ⟨m', h1, h2⟩ := hx
    refine ⟨⟨m', h2⟩, ?_⟩
    have hI' : ∃ m, I m s' H' := ⟨m', h2⟩
    have hl' := Classical.choose_spec (least (fun m => I m s' H') (Classical.choose hI') (Classical.choose_spec hI'))
    simp only [dif_pos hI, dif_pos hI']
    refine Nat.lt_of_le_of_lt ?_ h1
    refine Nat.le_of_not_lt fun hlt => ?_
    exact hl'.2 m' hlt h2
  | exit i => exact hx
  | ret => exact hx

/-- A loop that counts: I k after k rounds, N rounds in all (or fewer). -/
theorem loop_nat {P : Program} {n : Nat} {ro : Option Nat} {c : XC} {s : St} {H : AH} {Q : AX → St → AH → Prop} (N : Nat) (I : Nat → St → AH → Prop) (h0 : I 0 s H)
    (hr : ∀ k s H, k < N → I k s H → X P n ro c s H (AX.then (I (k + 1)) Q)) (hN : ∀ s H, I N s H → X P n ro c s H (AX.then (fun _ _ => False) Q)) : loopX (X P n ro c) s H Q := by
  refine loop_ind (fun m s H => ∃ k, k + m = N ∧ I k s H) N ⟨0, by omega, h0⟩ fun m s H ⟨k, hk, hI⟩ => ?_
  cases m with
  | zero =>
    have : k = N := by omega
    subst this
    refine X.mono c (hN s H hI) fun x s' H' hx => ?_
    cases x with
    | normal => exact hx.elim
    | exit i => exact hx
    | ret => exact hx
  | succ m =>
    refine X.mono c (hr k s H (by omega) hI) fun x s' H' hx => ?_
    cases x with
    | normal => exact ⟨m, by omega, k + 1, by omega, hx⟩
    | exit i => exact hx
    | ret => exact hx

/-! ### ranges over functions -/
theorem range_ind {P : Program} {n : Nat} {s : St} {H : AH} {Q : AX → St → AH → Prop} {f : Operand} {ps : Array Tmp} {xa xb : XC} (hf : okX f = true) {g : FuncId} {first cap : Array Value} (hev : ev s f = .func (.func g) first cap)
    (h : ∀ assign body, comp P n assign = some xa → comp P n body = some xb →
      FN P g (first.toList ++ [.func (.yield (H.length + 1)) #[] #[]] ++ cap.toList) (H ++ [.defs (some []), .loop (newLoop n s ps assign body H.length)])
        (fun _ H2 => ∃ r x, H2[H.length + 1]? = some (.loop r) ∧ r.state ≠ .busy ∧ AX.of r.pending = some x ∧
          Q x { s with ds := ⟨.collected H.length, #[]⟩ :: s.ds } (H2.set (H.length + 1) (.loop { r with state := .exhausted, pending := r.pending })))) : X P n none (.range f ps xa xb) s H Q := by
  intro assign body ha hb
  obtain ⟨hcl, hF⟩ := h assign body ha hb
  unfold callable at hcl
  split at hcl
  · rename_i fn hg
    simp only [Bool.and_eq_true, Bool.not_eq_true'] at hcl
    exact W.rangeFunc hf hev hg hcl.1 hcl.2 hF
  · cases hcl

/-- One round. -/
theorem YN.intro {P : Program} (hm : P.follows .mixedOrders = true) {l : Nat} {vs : List Value} {H : AH} {R : Value → AH → Prop} {r : ALoop} {xa xb : XC} (hl : H[l]? = some (.loop r)) (ha : comp P r.n r.assign = some xa) (hb : comp P r.n r.body = some xb)
    (hps : r.params.size = vs.length) (hpn : ∀ t ∈ r.params.toList, t < r.n)
    (h : X P r.n (some l) xa ⟨parEnv r.env r.params.toList vs, []⟩ H (fun x s1 H1 => x = .normal ∧ ∃ r1, H1[l]? = some (.loop r1) ∧ r1.state = .ready ∧
      X P r.n (some l) xb s1 (H1.set l (.loop { r1 with state := .busy, pending := r1.pending })) (fun x _ H3 => ∃ r3, H3[l]? = some (.loop r3) ∧
        R (.bool x.isN) (H3.set l (.loop { r3 with state := if x.isN then .ready else .done, pending := x.jump }))))) : YN P l vs H R := by
  obtain ⟨x1, s1, H1, ⟨rfl, r1, h1, h2, h3⟩, q1⟩ := comp_sound hm (ro := some l) r.assign xa _ _ _ ha h
  obtain ⟨x2, s2, H3, ⟨r3, h4, h5⟩, q2⟩ := comp_sound hm (ro := some l) r.body xb _ _ _ hb h3
  exact ⟨_, _, h5, ysim hl hps hpn q1 h1 h2 q2 h4⟩

end Go.Sim
