/- Part of the proof: ShLw. -/
import Derived.Test.YtbfpepbfpebmmaaGreatTLinSimSTToShC
set_option linter.all false
namespace Go.Sim
theorem joinV1.via {first:(Value→AH→Prop)→Prop} {r:Value→AH→Prop} (Q:Value→AH→Prop) (h1:∀ J:Value→AH→Prop,(∀ x0 H,Q x0 H→J x0 H)→first J) (h2:∀ x0 H,Q x0 H→r x0 H):@joinV1 first ⟨r⟩:=
  joinV1.intro fun J hJ=>h1 J fun x0 H h=>hJ x0 H (h2 x0 H h)
theorem joinV0.via {first:(AH→Prop)→Prop} {r:AH→Prop} (Q:AH→Prop) (h1:∀ J:AH→Prop,(∀ H,Q H→J H)→first J) (h2:∀ H,Q H→r H):@joinV0 first ⟨r⟩:=
  joinV0.intro fun J hJ=>h1 J fun H h=>hJ H (h2 H h)
namespace Lw
open Go
theorem getD_mem {β:Type} {l:List β} {k:Nat} {d:β} (hk:k<l.length):l.getD k d∈l:=by
  rw [List.getD_eq_getElem?_getD,List.getElem?_eq_getElem hk];exact List.getElem_mem hk
def Lo (n:Nat) (v:Value):Prop:=∀ a l c,v=.slice (some a) l c→n≤a.block
theorem row_setLow {H:AH} {v:Value} {cs:List Value} {x n:Nat} {y:AB} (h:Row H v cs) (hl:Lo n v) (hx:x<n):Row (H.set x y) v cs:=by
  rcases h with h|⟨b1,o,c,cc,e1,op1,r1,rfl,h2,h3,hcap⟩
  · exact .inl h
  · have:=hl _ _ _ rfl
    exact .inr ⟨b1,o,c,cc,e1,op1,r1,rfl,by rw [List.getElem?_set_ne (by simp at this;omega)];exact h2,h3,hcap⟩
theorem acc_lo {H0 H:AH} {v:Value} {cs:List Value} {e:TypeId} (h:Acc H0 H v cs e):Lo H0.length v:=by
  intro a l c hv
  rcases h with ⟨_,rfl⟩|⟨b,hb1,rfl,op,h4,h5⟩
  · cases hv
  · cases hv;exact hb1
theorem rowX_setLow {H:AH} {v:Value} {cs:List Value} {x n:Nat} {y:AB} (h:RowX H v cs) (hl:Lo n v) (hx:x<n):RowX (H.set x y) v cs:=by
  refine⟨row_setLow h.1 hl hx,?_⟩
  have h2:=h.2
  revert h2
  unfold Sim.erow
  split
  · exact fun h=>h
  · rename_i a _ _
    have hne:x≠a.block:=by have:=hl _ _ _ rfl;omega
    rw [List.getElem?_set_ne hne]
    exact fun h=>h
  · exact fun h=>h
def RowLo (n:Nat) (H:AH) (v:Value) (css:List (List Value)):Prop:=∃ vs,RowX H v vs∧Rws H vs css∧Lo n v∧∀ x∈vs,Lo n x
theorem RowLo.rowR {n:Nat} {H:AH} {v:Value} {css:List (List Value)} (h:RowLo n H v css):RowR H v css:=let ⟨vs,a,b,_⟩:=h;⟨vs,a,b⟩
theorem RowLo.setLow {n:Nat} {H:AH} {v:Value} {css:List (List Value)} {x:Nat} {y:AB} (h:RowLo n H v css) (hx:x<n):RowLo n (H.set x y) v css:=by
  obtain⟨vs,a,b,c,d⟩:=h
  exact⟨vs,rowX_setLow a c hx,⟨b.1,fun k hk=>row_setLow (b.2 k hk) (d _ (getD_mem (by rw [b.1];exact hk))) hx⟩,c,d⟩
def AccLo (H0 H:AH) (v:Value) (css:List (List Value)) (e:TypeId):Prop:=∃ vs,Acc H0 H v vs e∧Rws H vs css∧(∀ cs∈css,cs.all qk9=true)∧∀ x∈vs,Lo H0.length x
theorem AccLo.acc {H0 H:AH} {v:Value} {css:List (List Value)} {e:TypeId} (h:AccLo H0 H v css e):AccR H0 H v css e:=let ⟨vs,a,b,c,_⟩:=h;⟨vs,a,b,c⟩
theorem AccLo.pre {H0 H H':AH} {v:Value} {css:List (List Value)} {e:TypeId} (h:AccLo H0 H v css e) (hp:Pre H H'):AccLo H0 H' v css e:=let ⟨vs,h1,h2,h3,h4⟩:=h;⟨vs,h1.pre hp,h2.pre hp,h3,h4⟩
theorem AccLo.app1 {H0 H:AH} (hl0:H0.length≤H.length) {v u:Value} {css:List (List Value)} {us:List Value} {e:TypeId} {by_:Nat} (h:AccLo H0 H v css e) (hu:Row H u us) (hlo:Lo H0.length u) (hpl:us.all qk9=true) (hb:(css.length+1)*by_≤140737488355328) (hl:css.length+1≤9223372036854775807) {e2:TypeId} :
    ∃ v' H',xact (.app e 1 by_) (H++[.cells [u] e2 none false]) [v,.slice (some ⟨H.length,0,none⟩) 1 1]=some (v',H')∧AccLo H0 H' v' (css++[us]) e∧(Pre H0 H→Pre H0 H')∧H.length≤H'.length:=by
  obtain⟨vs,h1,h2,h3,h4⟩:=h
  have hlen:=h2.1
  have hplain:∀ cs∈css++[us],cs.all qk9=true:=by
    intro cs hcs
    rcases List.mem_append.1 hcs with hc|hc
    · exact h3 _ hc
    · rw [List.mem_singleton.1 hc];exact hpl
  have hlow:∀ x∈vs++[u],Lo H0.length x:=by
    intro x hx
    rcases List.mem_append.1 hx with hc|hc
    · exact h4 _ hc
    · rw [List.mem_singleton.1 hc];exact hlo
  obtain⟨v',H',q1,q2,q3,q4⟩:=h1.app1G (by_:=by_) (e2:=e2) hl0 hu.one (by rw [hlen];exact hb) (by rw [hlen];exact hl)
  have hr:∀ r cs,Row H r cs→cs.all qk9=true→Row H' r cs:=by
    intro r cs hr hc
    rcases h1 with ⟨rfl,rfl⟩|⟨b,hb1,rfl,op,h4',h5⟩
    · exact hr.pre fun b' hb'=>q3 b' hb' (fun _ _=>by simp)
    · exact hr.keep hc h5 h2.isSl fun b' hb' hne=>q3 b' hb' (fun l c=>by simp;intro e;exact absurd e.symm hne)
  refine⟨v',H',q1,⟨vs++[u],q2,Rws.snoc ⟨hlen,fun k hk'=>hr _ _ (h2.2 k hk') (h3 _ (getD_mem hk'))⟩ (hr _ _ hu hpl),hplain,hlow⟩,fun hp b hb=>?_,q4⟩
  rw [q3 b (by omega) (fun l c e=>?_)]
  · exact hp b hb
  · rcases h1 with ⟨_,rfl⟩|⟨b',hb1,rfl,_⟩
    · cases e
    · cases e;omega
end Lw
end Go.Sim
