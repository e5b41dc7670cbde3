/- Part of the proof: SimX3. -/
import Derived.Test.YtbfpepbfpebmmaaGreatMRepSimWToSimX2
set_option linter.all false
namespace Go.Sim
open Go
theorem known_ofM {P:Program} (hm:P.follows .mixedOrders=true) {T:FuncId→Option XF} (hT:∀ g xf,T g=some xf→compF P g=some xf) {O:CallT} (hO:CallOk P O) {wr:FuncId→Bool} {L d:Nat} {g:FuncId} {args:List Value} {kr:KRes}
    (hg:args.all ground=true) (h:kChk (callM T O wr L d 0 g args []) kr=true):KnownOk P g args kr:=by
  intro H
  unfold kChk at h
  split at h
  · cases h
  · rename_i v J hv
    have hF:=(callM_ok hm hT hO L d 0 g args [] v J (Nat.zero_le _) hv).1
    split at h
    · rename_i w
      rw [Bool.and_eq_true] at h
      have:=eqW_eq h.1
      subst this
      exact known_val hg h.2 hF H
    · rename_i l c x
      rw [Bool.and_eq_true] at h
      have h1:=eqW_eq h.1
      obtain⟨h2,h3⟩:=eqB_eq h.2
      exact known_blk (mk:=(KRes.row l c x).mk) hg KRes.mk_row h3 h2 (hF.mono (by rintro _ _ ⟨rfl,rfl⟩;exact⟨h1,rfl⟩)) H
    · rename_i p e n c er x
      rw [Bool.and_eq_true] at h
      have h1:=eqW_eq h.1
      obtain⟨h2,h3⟩:=eqB_eq h.2
      exact known_blk (mk:=(KRes.fld p e n c er x).mk) hg KRes.mk_fld h3 h2 (hF.mono (by rintro _ _ ⟨rfl,rfl⟩;exact⟨h1,rfl⟩)) H
end Go.Sim
