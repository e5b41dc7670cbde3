/- Part of the proof: SimX. -/
import Derived.Test.YtgcoidbhikfdkaaTSimWToShS
import Derived.KernelRfl
set_option linter.all false
namespace Go.Sim
open Go
def clo : Value → Bool
  | .tuple a => a.toList.all ground
  | v => ground v
theorem VR.of_clo {v : Value} (h : clo v = true) (i : Inj) : VR i v v := by
  unfold clo at h
  split at h
  · rename_i a
    have := VRs.tup (VRs.ground (i := i) h)
    simpa using this
  · exact VR.of_ground h i
theorem VRs.aggL {i : Inj} {l l' : List Value} (h : VRs i l l') : VR i (.agg l.toArray) (.agg l'.toArray) :=
  .agg (by simp [h.length]) (fun k h1 h2 => by simpa using h.at_ k (by simpa using h1) (by simpa using h2))
inductive KRes
  | val (v : Value)
  | row (l c : Nat) (x : AB)
  | fld (p e n c er : Nat) (x : AB)
def KRes.mk : KRes → Nat → Value
  | .val v, _ => v
  | .row l c _, b => .slice (some ⟨b, 0, none⟩) l c
  | .fld p e n c er _, b => .tuple [.agg [nv p, nv e, .slice (some ⟨b, 0, none⟩) n c].toArray, nv er].toArray
def KRes.hp : KRes → AH → AH
  | .val _, H => H
  | .row _ _ x, H => H ++ [x]
  | .fld _ _ _ _ _ x, H => H ++ [x]
def KnownOk (P : Program) (g : FuncId) (args : List Value) (r : KRes) : Prop := ∀ H, FN P g args H (fun v H' => v = r.mk H.length ∧ H' = r.hp H)
theorem known_val {P : Program} {g : FuncId} {args : List Value} {v : Value} {J : AH} (hg : args.all ground = true) (hv : clo v = true) (h : FN P g args [] (fun v1 H1 => v1 = v ∧ H1 = J)) (H : AH) : FN P g args H (fun v1 H' => v1 = v ∧ H' = H) := by
  obtain ⟨hc, v1, H1, ⟨rfl, rfl⟩, hs⟩ := h
  have h2 : FSim P g args [] v1 [] := hs.rename (fun _ => none) (fun b hb => by simp at hb) (fun b o _ ho => by cases ho) (fun b b' o h1 => by cases h1) (VR.of_clo hv _) (Nat.le_refl _) (fun b hb => by simp at hb)
  exact ⟨hc, v1, H ++ [], ⟨rfl, by simp⟩, h2.frame hg H (VR.of_clo hv _) rfl (fun k x hk => by simp at hk)⟩
theorem known_blk {P : Program} {g : FuncId} {args : List Value} {mk : Nat → Value} {x : AB} {J : AH} {k : Nat} (hg : args.all ground = true) (hmk : ∀ (σ : Nat → Option Nat) b2 b, σ b2 = some b → VR (hat σ) (mk b2) (mk b))
    (hx : ∀ σ, AR σ x x) (hJ : J[k]? = some x) (h : FN P g args [] (fun v1 H1 => v1 = mk k ∧ H1 = J)) (H : AH) : FN P g args H (fun v1 H' => v1 = mk H.length ∧ H' = H ++ [x]) := by
  have h1 : FN P g args [] (fun v H' => ∃ x1, H' = [] ++ [x1] ∧ v = mk 0 ∧ x1 = x) := FN.gc1 (R := fun v x1 => v = mk 0 ∧ x1 = x) (h.mono (by
    rintro _ _ ⟨rfl, rfl⟩
    exact ⟨_, k, mk 0, x, (List.nil_append _).symm, hJ, fun σ _ h => ⟨hmk σ 0 k (by simpa using h), hx σ⟩, rfl, rfl⟩))
  obtain ⟨hc, v1, H1, ⟨x1, rfl, rfl, rfl⟩, hs⟩ := h1
  refine ⟨hc, mk H.length, H ++ [x1], ⟨rfl, rfl⟩, hs.frame hg H (hmk _ _ _ (by simp)) rfl (fun k x hk => ?_)⟩
  cases k with
  | zero => simp at hk; subst hk; exact ⟨_, rfl, hx _⟩
  | succ k => simp at hk
theorem KRes.mk_row {l c : Nat} {x : AB} (σ : Nat → Option Nat) (b2 b : Nat) (h : σ b2 = some b) : VR (hat σ) ((KRes.row l c x).mk b2) ((KRes.row l c x).mk b) := hat_slice h
theorem KRes.mk_fld {p e n c er : Nat} {x : AB} (σ : Nat → Option Nat) (b2 b : Nat) (h : σ b2 = some b) : VR (hat σ) ((KRes.fld p e n c er x).mk b2) ((KRes.fld p e n c er x).mk b) :=
  VRs.tup (.cons (VRs.aggL (.cons (.int _ _) (.cons (.int _ _) (.cons (hat_slice h) .nil)))) (.cons (.int _ _) .nil))
def blkOf : Value → Nat
  | .slice (some a) _ _ => a.block
  | .tuple a => match a.toList with
    | .agg c :: _ => match c.toList with
      | [_, _, .slice (some a) _ _] => a.block
      | _ => 0
    | _ => 0
  | _ => 0
def eqVL : List Value → List Value → Bool
  | [], [] => true
  | a :: l, b :: m => eqV a b && eqVL l m
  | _, _ => false
theorem eqVL_eq : ∀ {a b : List Value}, eqVL a b = true → a = b
  | [], [], _ => rfl
  | a :: l, b :: m, h => by
    simp only [eqVL, Bool.and_eq_true] at h
    rw [eqV_eq h.1, eqVL_eq h.2]
  | [], _ :: _, h => by simp [eqVL] at h
  | _ :: _, [], h => by simp [eqVL] at h
def eqW : Value → Value → Bool
  | .tuple a, .tuple b => eqVL a.toList b.toList
  | a, b => eqV a b
theorem eqW_eq {a b : Value} (h : eqW a b = true) : a = b := by
  unfold eqW at h
  split at h
  · have := eqVL_eq h
    congr 1
    exact Array.ext' this
  · exact eqV_eq h
def eqB : Option AB → AB → Bool
  | some (.cells c e o r), .cells c' e' o' r' => eqL c c' && e == e' && o == o' && r == r' && c'.all ground
  | _, _ => false
theorem eqB_eq {a : Option AB} {x : AB} (h : eqB a x = true) : a = some x ∧ ∀ σ, AR σ x x := by
  unfold eqB at h
  split at h
  · simp only [Bool.and_eq_true, beq_iff_eq] at h
    obtain ⟨⟨⟨⟨h1, rfl⟩, rfl⟩, rfl⟩, h2⟩ := h
    rw [eqL_eq h1]
    exact ⟨rfl, fun σ => .cells _ _ _ (VRs.ground h2)⟩
  · cases h
def kChk (r : Option (Value × AH)) (kr : KRes) : Bool := match r with
  | none => false
  | some (v, J) => match kr with
    | .val w => eqW v w && clo w
    | .row l c x => eqW v ((KRes.row l c x).mk (blkOf v)) && eqB J[blkOf v]? x
    | .fld p e n c er x => eqW v ((KRes.fld p e n c er x).mk (blkOf v)) && eqB J[blkOf v]? x
end Go.Sim
