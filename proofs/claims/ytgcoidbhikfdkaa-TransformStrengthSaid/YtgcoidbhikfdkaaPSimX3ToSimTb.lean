/- Part of the proof: SimX3, SimTb. -/
import Derived.Test.YtgcoidbhikfdkaaPSimWToShC
set_option linter.all false
namespace Go.Sim
open Go
theorem known_ofM {P : Program} (hm : P.follows .mixedOrders = true) {T : FuncId → Option XF} (hT : ∀ g xf, T g = some xf → compF P g = some xf) {O : CallT} (hO : CallOk P O) {wr : FuncId → Bool} {L d : Nat} {g : FuncId} {args : List Value} {kr : KRes}
    (hg : args.all ground = true) (h : kChk (callM T O wr L d 0 g args []) kr = true) : KnownOk P g args kr := by
  intro H
  unfold kChk at h
  split at h
  · cases h
  · rename_i v J hv
    have hF := (callM_ok hm hT hO L d 0 g args [] v J (Nat.zero_le _) hv).1
    split at h
    · rename_i w
      rw [Bool.and_eq_true] at h
      have := eqW_eq h.1
      subst this
      exact known_val hg h.2 hF H
    · rename_i l c x
      rw [Bool.and_eq_true] at h
      have h1 := eqW_eq h.1
      obtain ⟨h2, h3⟩ := eqB_eq h.2
      exact known_blk (mk := (KRes.row l c x).mk) hg KRes.mk_row h3 h2 (hF.mono (by rintro _ _ ⟨rfl, rfl⟩; exact ⟨h1, rfl⟩)) H
    · rename_i p e n c er x
      rw [Bool.and_eq_true] at h
      have h1 := eqW_eq h.1
      obtain ⟨h2, h3⟩ := eqB_eq h.2
      exact known_blk (mk := (KRes.fld p e n c er x).mk) hg KRes.mk_fld h3 h2 (hF.mono (by rintro _ _ ⟨rfl, rfl⟩; exact ⟨h1, rfl⟩)) H
end Go.Sim

namespace Go.Sim
open Go
namespace Tb
theorem forceN_eq' {α : Type} (n : Nat) (K : Nat → α) : forceN n K = K n := by cases n <;> rfl
theorem nth_zero {α : Type} {a : α} {l : List α} : nth (a :: l) 0 = some a := rfl
theorem nth_succ {α : Type} {a : α} {l : List α} {n : Nat} : nth (a :: l) (n + 1) = nth l n := rfl
theorem nth_nil {α : Type} {n : Nat} : nth ([] : List α) n = none := by cases n <;> rfl
def TabOk (P : Program) (k : Nat) (l : List (Option XF)) : Prop := ∀ g xf, nth l g = some (some xf) → compF P (k + g) = some xf
theorem TabOk.z {P : Program} {k : Nat} : TabOk P k [] := by intro g xf h; rw [nth_nil] at h; cases h
theorem TabOk.s {P : Program} {k : Nat} {x : XF} {l : List (Option XF)} (hx : compF P k = some x) (h : TabOk P (k + 1) l) : TabOk P k (some x :: l) := by
  intro g xf hg
  cases g with
  | zero => rw [nth_zero] at hg; cases hg; exact hx
  | succ g => rw [nth_succ] at hg; rw [show k + (g + 1) = k + 1 + g by omega]; exact h g xf hg
theorem TabOk.n {P : Program} {k : Nat} {l : List (Option XF)} (h : TabOk P (k + 1) l) : TabOk P k (none :: l) := by
  intro g xf hg
  cases g with
  | zero => rw [nth_zero] at hg; cases hg
  | succ g => rw [nth_succ] at hg; rw [show k + (g + 1) = k + 1 + g by omega]; exact h g xf hg
noncomputable def xfOf (tab : List (Option XF)) (g : FuncId) : Option XF := Option.rec none (fun x => x) (nth tab g)
theorem xfOf_ok {P : Program} {tab : List (Option XF)} (ht : TabOk P 0 tab) (g : FuncId) (xf : XF) (h : xfOf tab g = some xf) : compF P g = some xf := by
  unfold xfOf at h
  cases e : nth tab g with
  | none => rw [e] at h; cases h
  | some x =>
    rw [e] at h
    have := ht g xf (by rw [e]; exact congrArg some h)
    rwa [Nat.zero_add] at this
end Tb
end Go.Sim
