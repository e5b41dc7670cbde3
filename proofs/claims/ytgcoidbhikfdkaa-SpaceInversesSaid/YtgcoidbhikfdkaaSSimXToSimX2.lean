/- Part of the proof: SimX, SimX2. -/
import Derived.Test.YtgcoidbhikfdkaaSSimUToSimZ
import Derived.KernelRfl
set_option linter.all false
namespace Go.Sim
open Go
def clo : Value → Bool
  | .tuple a => a.toList.all ground
  | v => ground v
theorem VR.of_clo {v : Value} (h : clo v = true) (i : Inj) : VR i v v := by
  unfold clo at h
  split at h
  · rename_i a
    have := VRs.tup (VRs.ground (i := i) h)
    simpa using this
  · exact VR.of_ground h i
theorem VRs.aggL {i : Inj} {l l' : List Value} (h : VRs i l l') : VR i (.agg l.toArray) (.agg l'.toArray) :=
  .agg (by simp [h.length]) (fun k h1 h2 => by simpa using h.at_ k (by simpa using h1) (by simpa using h2))
inductive KRes
  | val (v : Value)
  | row (l c : Nat) (x : AB)
  | fld (p e n c er : Nat) (x : AB)
def KRes.mk : KRes → Nat → Value
  | .val v, _ => v
  | .row l c _, b => .slice (some ⟨b, 0, none⟩) l c
  | .fld p e n c er _, b => .tuple [.agg [nv p, nv e, .slice (some ⟨b, 0, none⟩) n c].toArray, nv er].toArray
def KRes.hp : KRes → AH → AH
  | .val _, H => H
  | .row _ _ x, H => H ++ [x]
  | .fld _ _ _ _ _ x, H => H ++ [x]
def KnownOk (P : Program) (g : FuncId) (args : List Value) (r : KRes) : Prop := ∀ H, FN P g args H (fun v H' => v = r.mk H.length ∧ H' = r.hp H)
theorem known_val {P : Program} {g : FuncId} {args : List Value} {v : Value} {J : AH} (hg : args.all ground = true) (hv : clo v = true) (h : FN P g args [] (fun v1 H1 => v1 = v ∧ H1 = J)) (H : AH) : FN P g args H (fun v1 H' => v1 = v ∧ H' = H) := by
  obtain ⟨hc, v1, H1, ⟨rfl, rfl⟩, hs⟩ := h
  have h2 : FSim P g args [] v1 [] := hs.rename (fun _ => none) (fun b hb => by simp at hb) (fun b o _ ho => by cases ho) (fun b b' o h1 => by cases h1) (VR.of_clo hv _) (Nat.le_refl _) (fun b hb => by simp at hb)
  exact ⟨hc, v1, H ++ [], ⟨rfl, by simp⟩, h2.frame hg H (VR.of_clo hv _) rfl (fun k x hk => by simp at hk)⟩
theorem known_blk {P : Program} {g : FuncId} {args : List Value} {mk : Nat → Value} {x : AB} {J : AH} {k : Nat} (hg : args.all ground = true) (hmk : ∀ (σ : Nat → Option Nat) b2 b, σ b2 = some b → VR (hat σ) (mk b2) (mk b))
    (hx : ∀ σ, AR σ x x) (hJ : J[k]? = some x) (h : FN P g args [] (fun v1 H1 => v1 = mk k ∧ H1 = J)) (H : AH) : FN P g args H (fun v1 H' => v1 = mk H.length ∧ H' = H ++ [x]) := by
  have h1 : FN P g args [] (fun v H' => ∃ x1, H' = [] ++ [x1] ∧ v = mk 0 ∧ x1 = x) := FN.gc1 (R := fun v x1 => v = mk 0 ∧ x1 = x) (h.mono (by
    rintro _ _ ⟨rfl, rfl⟩
    exact ⟨_, k, mk 0, x, (List.nil_append _).symm, hJ, fun σ _ h => ⟨hmk σ 0 k (by simpa using h), hx σ⟩, rfl, rfl⟩))
  obtain ⟨hc, v1, H1, ⟨x1, rfl, rfl, rfl⟩, hs⟩ := h1
  refine ⟨hc, mk H.length, H ++ [x1], ⟨rfl, rfl⟩, hs.frame hg H (hmk _ _ _ (by simp)) rfl (fun k x hk => ?_)⟩
  cases k with
  | zero => simp at hk; subst hk; exact ⟨_, rfl, hx _⟩
  | succ k => simp at hk
theorem KRes.mk_row {l c : Nat} {x : AB} (σ : Nat → Option Nat) (b2 b : Nat) (h : σ b2 = some b) : VR (hat σ) ((KRes.row l c x).mk b2) ((KRes.row l c x).mk b) := hat_slice h
theorem KRes.mk_fld {p e n c er : Nat} {x : AB} (σ : Nat → Option Nat) (b2 b : Nat) (h : σ b2 = some b) : VR (hat σ) ((KRes.fld p e n c er x).mk b2) ((KRes.fld p e n c er x).mk b) :=
  VRs.tup (.cons (VRs.aggL (.cons (.int _ _) (.cons (.int _ _) (.cons (hat_slice h) .nil)))) (.cons (.int _ _) .nil))
def blkOf : Value → Nat
  | .slice (some a) _ _ => a.block
  | .tuple a => match a.toList with
    | .agg c :: _ => match c.toList with
      | [_, _, .slice (some a) _ _] => a.block
      | _ => 0
    | _ => 0
  | _ => 0
def eqVL : List Value → List Value → Bool
  | [], [] => true
  | a :: l, b :: m => eqV a b && eqVL l m
  | _, _ => false
theorem eqVL_eq : ∀ {a b : List Value}, eqVL a b = true → a = b
  | [], [], _ => rfl
  | a :: l, b :: m, h => by
    simp only [eqVL, Bool.and_eq_true] at h
    rw [eqV_eq h.1, eqVL_eq h.2]
  | [], _ :: _, h => by simp [eqVL] at h
  | _ :: _, [], h => by simp [eqVL] at h
def eqW : Value → Value → Bool
  | .tuple a, .tuple b => eqVL a.toList b.toList
  | a, b => eqV a b
theorem eqW_eq {a b : Value} (h : eqW a b = true) : a = b := by
  unfold eqW at h
  split at h
  · have := eqVL_eq h
    congr 1
    exact Array.ext' this
  · exact eqV_eq h
def eqB : Option AB → AB → Bool
  | some (.cells c e o r), .cells c' e' o' r' => eqL c c' && e == e' && o == o' && r == r' && c'.all ground
  | _, _ => false
theorem eqB_eq {a : Option AB} {x : AB} (h : eqB a x = true) : a = some x ∧ ∀ σ, AR σ x x := by
  unfold eqB at h
  split at h
  · simp only [Bool.and_eq_true, beq_iff_eq] at h
    obtain ⟨⟨⟨⟨h1, rfl⟩, rfl⟩, rfl⟩, h2⟩ := h
    rw [eqL_eq h1]
    exact ⟨rfl, fun σ => .cells _ _ _ (VRs.ground h2)⟩
  · cases h
def kChk (r : Option (Value × AH)) (kr : KRes) : Bool := match r with
  | none => false
  | some (v, J) => match kr with
    | .val w => eqW v w && clo w
    | .row l c x => eqW v ((KRes.row l c x).mk (blkOf v)) && eqB J[blkOf v]? x
    | .fld p e n c er x => eqW v ((KRes.fld p e n c er x).mk (blkOf v)) && eqB J[blkOf v]? x
theorem known_of {P : Program} (hm : P.follows .mixedOrders = true) {T : FuncId → Option XF} (hT : ∀ g xf, T g = some xf → compF P g = some xf) {O : CallT} (hO : CallOk P O) {L d : Nat} {g : FuncId} {args : List Value} {kr : KRes}
    (hg : args.all ground = true) (h : kChk (callF T O L d g args []) kr = true) : KnownOk P g args kr := by
  intro H
  unfold kChk at h
  split at h
  · cases h
  · rename_i v J hv
    have hF := (callF_ok hm hT hO L d g args [] v J hv).1
    split at h
    · rename_i w
      rw [Bool.and_eq_true] at h
      have := eqW_eq h.1
      subst this
      exact known_val hg h.2 hF H
    · rename_i l c x
      rw [Bool.and_eq_true] at h
      have h1 := eqW_eq h.1
      obtain ⟨h2, h3⟩ := eqB_eq h.2
      exact known_blk (mk := (KRes.row l c x).mk) hg KRes.mk_row h3 h2 (hF.mono (by rintro _ _ ⟨rfl, rfl⟩; exact ⟨h1, rfl⟩)) H
    · rename_i p e n c er x
      rw [Bool.and_eq_true] at h
      have h1 := eqW_eq h.1
      obtain ⟨h2, h3⟩ := eqB_eq h.2
      exact known_blk (mk := (KRes.fld p e n c er x).mk) hg KRes.mk_fld h3 h2 (hF.mono (by rintro _ _ ⟨rfl, rfl⟩; exact ⟨h1, rfl⟩)) H
abbrev KTab := List (List Value × KRes)
def KTabOk (P : Program) (g : FuncId) (t : KTab) : Prop := ∀ x ∈ t, KnownOk P g x.1 x.2
noncomputable def kAll (T : FuncId → Option XF) (O : CallT) (L d : Nat) (g : FuncId) (t : KTab) : Bool :=
  List.rec true (fun x _ ih => bif x.1.all ground && kChk (callF T O L d g x.1 []) x.2 then ih else false) t
theorem KTabOk.of {P : Program} (hm : P.follows .mixedOrders = true) {T : FuncId → Option XF} (hT : ∀ g xf, T g = some xf → compF P g = some xf) {O : CallT} (hO : CallOk P O) {L d : Nat} {g : FuncId} : ∀ {t : KTab}, kAll T O L d g t = true → KTabOk P g t
  | [], _ => by intro x hx; cases hx
  | y :: t, h => by
    change (bif y.1.all ground && kChk (callF T O L d g y.1 []) y.2 then kAll T O L d g t else false) = true at h
    cases e : (y.1.all ground && kChk (callF T O L d g y.1 []) y.2) with
    | false => rw [e] at h; cases h
    | true =>
      rw [e] at h
      rw [Bool.and_eq_true] at e
      intro x hx
      cases hx with
      | head => exact known_of hm hT hO e.1 e.2
      | tail _ hx => exact KTabOk.of hm hT hO h x hx
theorem KTabOk.append {P : Program} {g : FuncId} {a b : KTab} (ha : KTabOk P g a) (hb : KTabOk P g b) : KTabOk P g (a ++ b) := by
  intro x hx
  rcases List.mem_append.1 hx with h | h
  · exact ha x h
  · exact hb x h
noncomputable def kOut (H : AH) (r : KRes) : Option (Value × AH) :=
  KRes.rec (fun v => some (v, H)) (fun l c x => forceN (lenN H) fun b => some ((KRes.row l c x).mk b, H ++ [x])) (fun p e n c er x => forceN (lenN H) fun b => some ((KRes.fld p e n c er x).mk b, H ++ [x])) r
theorem kOut_eq (H : AH) (r : KRes) : kOut H r = some (r.mk H.length, r.hp H) := by
  have hl : ∀ H : AH, lenN H = H.length := fun H => lenN_eq H
  cases r with
  | val v => rfl
  | row l c x =>
    change forceN (lenN H) (fun b => some ((KRes.row l c x).mk b, H ++ [x])) = _
    rw [forceN_eq, hl]; rfl
  | fld p e n c er x =>
    change forceN (lenN H) (fun b => some ((KRes.fld p e n c er x).mk b, H ++ [x])) = _
    rw [forceN_eq, hl]; rfl
noncomputable def oKn (g : FuncId) (t : KTab) : CallT := fun g' args H => bif Nat.beq g g' then List.rec none (fun x _ ih => bif eqL x.1 args then kOut H x.2 else ih) t else none
theorem oKn_ok {P : Program} {g : FuncId} {t : KTab} (h : KTabOk P g t) : CallOk P (oKn g t) := by
  intro g' args H v H' he
  unfold oKn at he
  cases hg : Nat.beq g g' with
  | false => rw [hg] at he; cases he
  | true =>
    rw [hg] at he
    simp only [cond_true] at he
    have hg := Nat.eq_of_beq_eq_true hg
    subst hg
    induction t with
    | nil => cases he
    | cons x t ih =>
      change (bif eqL x.1 args then kOut H x.2 else List.rec none (fun x _ ih => bif eqL x.1 args then kOut H x.2 else ih) t) = _ at he
      cases hx : eqL x.1 args with
      | false => rw [hx] at he; exact ih (fun y hy => h y (List.mem_cons_of_mem _ hy)) he
      | true =>
        rw [hx, cond_true, kOut_eq] at he
        have h0 := eqL_eq hx
        subst h0
        have h1 := h x List.mem_cons_self H
        cases he
        refine ⟨h1, ?_⟩
        have hk : ∀ y, Keep H.length H (H ++ [y]) := fun y => ⟨by simp, fun b hb => List.getElem?_append_left hb⟩
        cases x.2 with
        | val v => exact Keep.refl (Nat.le_refl _)
        | row l c y => exact hk y
        | fld p e n c er y => exact hk y
noncomputable def orO (a b : CallT) : CallT := fun g args H => Option.rec (b g args H) some (a g args H)
theorem CallOk.or {P : Program} {a b : CallT} (ha : CallOk P a) (hb : CallOk P b) : CallOk P (orO a b) := by
  intro g args H v H' h
  cases e : a g args H with
  | none => exact hb g args H v H' (by simpa [orO, e] using h)
  | some r => exact ha g args H v H' (by rw [e]; simpa [orO, e] using h)
end Go.Sim

namespace Go.Sim
open Go
theorem u8_of_wf {n : Int} (h : (Lit.int .u8 n).wf = true) : ∃ k : Nat, n = (k : Int) ∧ k < 256 := by
  simp [Lit.wf, IntKind.min, IntKind.max, IntKind.signed, IntKind.bits] at h
  exact ⟨n.toNat, by omega, by omega⟩
end Go.Sim
