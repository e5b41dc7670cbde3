/- Part of the proof: FieldI. -/
import Derived.Test.YtaepmmdbhikjlaaFieldH
import Derived.Test.YtaepmmdbhikjlaaSimX
set_option linter.unusedSimpArgs false
namespace Go.Sim
open Go Go.Proofs

def natsOf : List Value → Option (List Nat)
  | [] => some []
  | .int .i64 (.ofNat n) :: l => match natsOf l with
    | some r => some (n :: r)
    | none => none
  | _ :: _ => none
theorem natsOf_ok : ∀ {l : List Value} {r : List Nat}, natsOf l = some r → l = r.map nv
  | [], r, h => by cases h; rfl
  | v :: l, r, h => by
    unfold natsOf at h
    split at h
    · rename_i e; cases e
    · rename_i n l' e
      cases e
      split at h
      · rename_i q hq
        cases h
        rw [natsOf_ok hq]
        rfl
      · cases h
    · cases h

/-- Are these digits right ones? -/
def okFld (p e n : Nat) (m : List Nat) : Bool := Nat.beq n e && Nat.beq m.length e && m.all (fun z => Nat.blt z p) && Nat.ble 2 p && Nat.ble 1 e && Nat.ble e 6 && Nat.ble (Nat.pow p e) 64
def fldOf (H : AH) (v : Value) : Option (Nat × Nat × List Nat) := match v with
  | .agg a => match a.toList with
    | [.int .i64 (.ofNat p), .int .i64 (.ofNat e), .slice (some ⟨b, 0, none⟩) n _] => match H[b]? with
      | some (.cells l _ _ _) => match natsOf l with
        | some m => bif okFld p e n m then some (p, e, m) else none
        | none => none
      | _ => none
    | _ => none
  | _ => none

structure FldAt (H : AH) (v : Value) (p e : Nat) (m : List Nat) : Prop where
  ex : ∃ b c el op r, v = fldv p e b e c ∧ H[b]? = some (.cells (m.map nv) el op r)
  len : m.length = e
  lt : ∀ z ∈ m, z < p
  p2 : 2 ≤ p
  e1 : 1 ≤ e
  e6 : e ≤ 6
  q : p ^ e ≤ 64
theorem fldOf_ok {H : AH} {v : Value} {p e : Nat} {m : List Nat} (h : fldOf H v = some (p, e, m)) : FldAt H v p e m := by
  unfold fldOf at h
  split at h
  · rename_i a
    split at h
    · rename_i p' e' b n c ha
      split at h
      · rename_i l el op r hb
        split at h
        · rename_i m' hm
          cases hk : okFld p' e' n m' with
          | false => rw [hk] at h; cases h
          | true =>
            rw [hk] at h
            cases h
            simp only [okFld, Bool.and_eq_true, List.all_eq_true] at hk
            obtain ⟨⟨⟨⟨⟨⟨k1, k2⟩, k3⟩, k4⟩, k5⟩, k6⟩, k7⟩ := hk
            have k1 := Nat.eq_of_beq_eq_true k1
            have k2 := Nat.eq_of_beq_eq_true k2
            have k3 := fun z hz => Nat.lt_of_lt_of_le (Nat.lt_succ_self z) (Nat.le_of_ble_eq_true (k3 z hz))
            subst k1
            refine ⟨⟨b, c, el, op, r, ?_, by rw [hb, natsOf_ok hm]⟩, k2, k3, Nat.le_of_ble_eq_true k4, Nat.le_of_ble_eq_true k5, Nat.le_of_ble_eq_true k6, Nat.le_of_ble_eq_true k7⟩
            rw [show a = a.toList.toArray by simp, ha]
            rfl
        · cases h
      · cases h
    · cases h
  · cases h

theorem forceN_eq' {α : Type} (n : Nat) (K : Nat → α) : forceN n K = K n := by cases n <;> rfl

/-- Mul as an oracle. -/
noncomputable def oMul : CallT := fun g args H => bif Nat.beq g 23 then match args with
  | [f, .int .i64 (.ofNat x), .int .i64 (.ofNat y)] => match fldOf H f with
    | some (p, e, m) => bif Nat.blt x 1000 && Nat.blt y 1000 then forceN (mulF p e m x y) fun n => some (.int .i64 (.ofNat n), H) else none
    | none => none
  | _ => none else none
theorem oMul_ok : CallOk Try.prog oMul := by
  intro g args H v H' h
  unfold oMul at h
  cases hg : Nat.beq g 23 with
  | false => rw [hg] at h; cases h
  | true =>
    rw [hg] at h
    simp only [cond_true] at h
    have hg := Nat.eq_of_beq_eq_true hg
    subst hg
    split at h
    · rename_i f x y
      split at h
      · rename_i p e m hf
        cases hk : (Nat.blt x 1000 && Nat.blt y 1000) with
        | false => rw [hk] at h; cases h
        | true =>
          rw [hk] at h
          simp only [cond_true, forceN_eq'] at h
          cases h
          simp only [Bool.and_eq_true] at hk
          obtain ⟨⟨b, c, el, op, r, rfl, hb⟩, h1, h2, h3, h4, h5, h6⟩ := fldOf_ok hf
          exact ⟨mul_spec hb h1 h2 h3 h4 h5 h6 (Nat.le_of_ble_eq_true hk.1) (Nat.le_of_ble_eq_true hk.2), Keep.refl (Nat.le_refl _)⟩
      · cases h
    · cases h

theorem nth_zero {α : Type} {a : α} {l : List α} : nth (a :: l) 0 = some a := rfl
theorem nth_succ {α : Type} {a : α} {l : List α} {n : Nat} : nth (a :: l) (n + 1) = nth l n := rfl
theorem nth_nil {α : Type} {n : Nat} : nth ([] : List α) n = none := by cases n <;> rfl
def TabOk (P : Program) (k : Nat) (l : List (Option XF)) : Prop := ∀ g xf, nth l g = some (some xf) → compF P (k + g) = some xf
theorem TabOk.z {P : Program} {k : Nat} : TabOk P k [] := by intro g xf h; rw [nth_nil] at h; cases h
theorem TabOk.s {P : Program} {k : Nat} {x : XF} {l : List (Option XF)} (hx : compF P k = some x) (h : TabOk P (k + 1) l) : TabOk P k (some x :: l) := by
  intro g xf hg
  cases g with
  | zero => rw [nth_zero] at hg; cases hg; exact hx
  | succ g => rw [nth_succ] at hg; rw [show k + (g + 1) = k + 1 + g by omega]; exact h g xf hg
theorem TabOk.n {P : Program} {k : Nat} {l : List (Option XF)} (h : TabOk P (k + 1) l) : TabOk P k (none :: l) := by
  intro g xf hg
  cases g with
  | zero => rw [nth_zero] at hg; cases hg
  | succ g => rw [nth_succ] at hg; rw [show k + (g + 1) = k + 1 + g by omega]; exact h g xf hg

/-- The looked-up functions. -/
def tab : List (Option XF) := [none, none, some xf2, some xf3, some xf4, some xf5, some xf6, some xf7, some xf8, some xf9, some xf10, some xf11, some xf12, some xf13, some xf14, some xf15, some xf16, some xf17, some xf18, some xf19, some xf20, some xf21, some xf22, some xf23, some xf24, some xf25, some xf26, some xf27, some xf28, some xf29, some xf30, some xf31, some xf32, some xf33, some xf34, some xf35, some xf36, some xf37, some xf38, some xf39, some xf40, some xf41, some xf42, some xf43, some xf44, some xf45, some xf46, some xf47, some xf48, some xf49, some xf50, some xf51, some xf52, some xf53, some xf54, some xf55, some xf56, some xf57, some xf58, some xf59, some xf60, some xf61, some xf62, some xf63, some xf64, some xf65, some xf66]
theorem tab_ok : TabOk Try.prog 0 tab := (.n (.n (.s xf2_ok (.s xf3_ok (.s xf4_ok (.s xf5_ok (.s xf6_ok (.s xf7_ok (.s xf8_ok (.s xf9_ok (.s xf10_ok (.s xf11_ok (.s xf12_ok (.s xf13_ok (.s xf14_ok (.s xf15_ok (.s xf16_ok (.s xf17_ok (.s xf18_ok (.s xf19_ok (.s xf20_ok (.s xf21_ok (.s xf22_ok (.s xf23_ok (.s xf24_ok (.s xf25_ok (.s xf26_ok (.s xf27_ok (.s xf28_ok (.s xf29_ok (.s xf30_ok (.s xf31_ok (.s xf32_ok (.s xf33_ok (.s xf34_ok (.s xf35_ok (.s xf36_ok (.s xf37_ok (.s xf38_ok (.s xf39_ok (.s xf40_ok (.s xf41_ok (.s xf42_ok (.s xf43_ok (.s xf44_ok (.s xf45_ok (.s xf46_ok (.s xf47_ok (.s xf48_ok (.s xf49_ok (.s xf50_ok (.s xf51_ok (.s xf52_ok (.s xf53_ok (.s xf54_ok (.s xf55_ok (.s xf56_ok (.s xf57_ok (.s xf58_ok (.s xf59_ok (.s xf60_ok (.s xf61_ok (.s xf62_ok (.s xf63_ok (.s xf64_ok (.s xf65_ok (.s xf66_ok .z)))))))))))))))))))))))))))))))))))))))))))))))))))))))))))))))))))
noncomputable def xfT (g : FuncId) : Option XF := Option.rec none (fun x => x) (nth tab g)
theorem xfT_ok (g : FuncId) (xf : XF) (h : xfT g = some xf) : compF Try.prog g = some xf := by
  unfold xfT at h
  cases e : nth tab g with
  | none => rw [e] at h; cases h
  | some x =>
    rw [e] at h
    have := tab_ok g xf (by rw [e]; exact congrArg some h)
    rwa [Nat.zero_add] at this

/-- What a run on known values shows, at the empty heap. -/
theorem FN.run {O : CallT} (hO : CallOk Try.prog O) {L d : Nat} {g : FuncId} {args : List Value} {v : Value} {H' : AH} (h : callF xfT O L d g args [] = some (v, H')) : FN Try.prog g args [] (fun v1 H1 => v1 = v ∧ H1 = H') :=
  (callF_ok mixed xfT_ok hO L d g args [] v H' h).1
/-- A known answer, at any heap. -/
theorem FN.known {O : CallT} (hO : CallOk Try.prog O) {L d : Nat} {g : FuncId} {args : List Value} {v : Value} (h : callF xfT O L d g args [] = some (v, [])) (hg : (args.all Go.Sim.ground && Go.Sim.ground v) = true) (H : AH) : FN Try.prog g args H (fun v1 H1 => v1 = v ∧ H1 = H) := by
  rw [Bool.and_eq_true] at hg
  exact FN.ground hg.1 hg.2 (FN.run hO h) H
end Go.Sim
