/- Part of the proof: MoO. -/
import Derived.Test.YtbfpepbfpebmmaaGreatMMatMoTToMoN
import Derived.Test.YtbfpepbfpebmmaaGreatMMatZMoL
set_option linter.all false
namespace Go.Sim
open Go Go.Proofs
def RowSt (S:Nat→Prop) (H:AH) (v:Value) (css:List (List Value)):Prop:=∀ H':AH,(∀ b,b<H.length→¬S b→H'[b]? = H[b]?)→RowR H' v css
section
variable {S:Nat→Prop} {H H2:AH} {v:Value} {css:List (List Value)}
theorem RowSt.now (h:RowSt S H v css):RowR H v css:=h H fun _ _ _=>rfl
end
section
variable {α:Type} [Fl α] [DecidableEq α] {cd:α→Nat} {p e b c q:Nat} {blk:AB} {H:AH}
theorem lev_len {n:Nat} {A:List (List α)} (hl:∀ x∈A,x.length=n):(∀ x∈lev (vsum n) A,x.length=n)∧(lev (vsum n) A).length≤A.length:=by
  obtain⟨h1,_,h3⟩:=qbz (qfz (f:=vsum n) hl)
  refine⟨h1.len,Nat.le_trans h3 ?_⟩
  unfold qf0
  split
  · exact Nat.le_refl _
  · rw [List.length_map];exact List.length_eraseIdx_le ..
theorem lkept_le (f:Vc α→α) (G:List (List α)):(qf0 f G).length≤G.length:=by
  unfold qf0
  split
  · exact Nat.le_refl _
  · rw [List.length_map];exact List.length_eraseIdx_le ..
def ExMo:Prop:=∀ H:AH,FN Tryz.prog 11 [] H (fun r H'=>r=.bool true∧H'=H)
end
end Go.Sim
