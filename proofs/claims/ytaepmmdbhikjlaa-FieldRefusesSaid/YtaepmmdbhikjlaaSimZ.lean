/- The semantic simulation logic, part 26: rounds of a range over a function, for stepping. -/
import Derived.Test.YtaepmmdbhikjlaaSimY
namespace Go.Sim
open Go

theorem X_gen {P : Program} {n : Nat} {ro : Option Nat} {c : XC} {s : St} {H : AH} {Q : AX → St → AH → Prop} (I : St → AH → Prop) (h0 : I s H) (h : ∀ s H, I s H → X P n ro c s H Q) : X P n ro c s H Q := h s H h0
theorem parEnv_one {env : Nat → Value} {t0 : Tmp} {v : Value} {ds : List Deferred} (t : Tmp) : (⟨parEnv env [t0] [v], ds⟩ : St).env t = if t = t0 then v else env t := _root_.id rfl

theorem parEnv_at {env : Nat → Value} {t0 : Tmp} {v : Value} (t : Tmp) : parEnv env [t0] [v] t = if t = t0 then v else env t := _root_.id rfl

/-- What follows the assignment of a round, and what follows its body. -/
def ynB (l : Nat) (R : Value → AH → Prop) : AX → St → AH → Prop := fun x _ H3 => ∃ r3, H3[l]? = some (.loop r3) ∧
  R (.bool x.isN) (H3.set l (.loop { r3 with state := if x.isN then .ready else .done, pending := x.jump }))
def ynA (P : Program) (l n : Nat) (xb : XC) (R : Value → AH → Prop) : AX → St → AH → Prop := fun x s1 H1 => x = .normal ∧ ∃ r1, H1[l]? = some (.loop r1) ∧ r1.state = .ready ∧
  X P n (some l) xb s1 (H1.set l (.loop { r1 with state := .busy, pending := r1.pending })) (ynB l R)

theorem E_ynA {P : Program} {l n : Nat} {xb : XC} {R : Value → AH → Prop} {s : St} {H : AH} : EZ (ynA P l n xb R) .normal s H = ∃ r1, H[l]? = some (.loop r1) ∧ r1.state = .ready ∧
    @XZ P n (some l) xb ⟨s⟩ ⟨H.set l (.loop { r1 with state := .busy, pending := r1.pending })⟩ ⟨ynB l R⟩ := by
  simp [EZ, ynA, XZ]
theorem E_ynB {l : Nat} {R : Value → AH → Prop} {x : AX} {s : St} {H : AH} : EZ (ynB l R) x s H = ∃ r3, H[l]? = some (.loop r3) ∧
    R (.bool x.isN) (H.set l (.loop { r3 with state := if x.isN then .ready else .done, pending := x.jump })) := _root_.id rfl

theorem YN.introZ {P : Program} (hm : P.follows .mixedOrders = true) {l : Nat} {vs : List Value} {H : AH} {R : Value → AH → Prop} {r : ALoop} {xa xb : XC} (hl : H[l]? = some (.loop r)) (ha : comp P r.n r.assign = some xa) (hb : comp P r.n r.body = some xb)
    (hps : r.params.size = vs.length) (hpn : ∀ t ∈ r.params.toList, t < r.n)
    (h : @XZ P r.n (some l) xa ⟨⟨parEnv r.env r.params.toList vs, []⟩⟩ ⟨H⟩ ⟨ynA P l r.n xb R⟩) : YN P l vs H R :=
  YN.intro hm hl ha hb hps hpn h
theorem EZ_of {Q : AX → St → AH → Prop} {x : AX} {s : St} {H : AH} (h : EZ Q x s H) : Q x s H := h
theorem unwA_col {r : Nat} {ds : List Deferred} {H : AH} (h : H[r]? = some (.defs (some []))) : unwA (⟨.collected r, #[]⟩ :: ds) H = unwA ds (H.set r (.defs none)) := by
  simp [unwA, h]
theorem xbin_subZ {a b m : Nat} (h : a < 1000000) (h2 : b < 1000000) : xbin .sub m (nv a) (nv b) = some (.int .i64 ((a : Int) - (b : Int))) := by
  rw [xbin_sub, wrap64 (by omega) (by omega)]
theorem xbin_addZ {z : Int} {b m : Nat} (h : -1000000 < z) (h1 : z < 1000000) (h2 : b < 1000000) : xbin .add m (.int .i64 z) (nv b) = some (.int .i64 (z + (b : Int))) := by
  rw [xbin_add, wrap64 (by omega) (by omega)]
end Go.Sim
