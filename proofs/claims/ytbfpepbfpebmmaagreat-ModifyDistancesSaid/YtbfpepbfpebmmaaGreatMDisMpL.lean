/- Part of the proof: MpL. -/
import Derived.Test.YtbfpepbfpebmmaaGreatMDisMpH
set_option linter.all false
namespace Go.Sim
open Go Go.Proofs
namespace Pf
end Pf
section
variable {α:Type} [Fl α] [DecidableEq α] {cd:α→Nat} {p e b c q:Nat} {blk:AB} {H:AH}
theorem len_of {v:Value} {A:List (List α)} (h:RowR H v (evr cd A)):xpure .lenS [v]=some (nv A.length):=by
  obtain⟨vs,hvs,hvl,_⟩:=h.open
  obtain⟨vl,_,_,_⟩:=hvs.allV
  rwa [hvl] at vl
theorem wt_sum (F:FOK α cd p e b c 2 blk):∀ (n:Nat) (x:List α),x.length=n→(lwt x % 2=1↔vsum n (toV x)≠Fl.zero):=by
  have h01:∀ a:α,a=Fl.zero∨a=Fl.one:=fun a=>by
    have:=F.lt a
    have hz:=F.zero
    have ho:=F.one
    rcases (show cd a=0∨cd a=1 by omega) with h|h
    · exact .inl (F.inj _ _ (h.trans hz.symm))
    · exact .inr (F.inj _ _ (h.trans ho.symm))
  have h11:Fl.add (Fl.one:α) Fl.one=Fl.zero:=by
    rcases h01 (Fl.add (Fl.one:α) Fl.one) with h|h
    · exact h
    · exfalso
      have:Fl.add (Fl.one:α) Fl.one=Fl.add Fl.one Fl.zero:=by rw [h,Fl.add_zero]
      exact one_ne_zero' (Fl.add_left_cancel this)
  have key:∀ (n:Nat) (x:List α),n≤x.length→(lwt (x.take n) % 2=1↔vsum n (toV x)≠Fl.zero):=by
    intro n x
    induction n with
    | zero=>intro _;simp [lwt,vsum]
    | succ n ih =>
      intro hn
      have ih:=ih (by omega)
      have hlt:n<x.length:=by omega
      have e1:lwt (x.take (n+1))=lwt (x.take n)+if x.getD n Fl.zero≠Fl.zero then 1 else 0:=by
        unfold lwt
        rw [List.take_succ_eq_append_getElem hlt,List.filter_append,List.length_append]
        congr 1
        simp only [List.getD_eq_getElem?_getD,List.getElem?_eq_getElem hlt,Option.getD_some]
        by_cases h:x[n]=Fl.zero
        · rw [if_neg (fun h'=>h' h),List.filter_cons_of_neg (by simp [h])];rfl
        · rw [if_pos h,List.filter_cons_of_pos (by simp [h])];rfl
      have e2:vsum (n+1) (toV x)=Fl.add (vsum n (toV x)) (x.getD n Fl.zero):=rfl
      rw [e1,e2]
      by_cases h0:x.getD n Fl.zero=Fl.zero
      · rw [if_neg (fun h=>h h0),h0,Fl.add_zero,Nat.add_zero];exact ih
      · have ho:x.getD n Fl.zero=Fl.one:=(h01 _).resolve_left h0
        rw [if_pos h0,ho]
        rcases h01 (vsum n (toV x)) with hs|hs
        · rw [hs,Fl.zero_add]
          have h2:¬lwt (x.take n) % 2=1:=fun h=>ih.1 h hs
          constructor
          · intro _ h;exact one_ne_zero' h
          · intro _;omega
        · rw [hs,h11]
          have h2:lwt (x.take n) % 2=1:=ih.2 (by rw [hs];exact fun h=>one_ne_zero' h)
          constructor
          · intro h;omega
          · intro h;exact absurd rfl h
  intro n x hx
  have:=key n x (by omega)
  rwa [List.take_of_length_le (by omega)] at this
end
end Go.Sim
