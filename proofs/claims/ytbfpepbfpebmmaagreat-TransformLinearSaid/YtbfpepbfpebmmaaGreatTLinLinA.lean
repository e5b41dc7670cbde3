/- Part of the proof: LinA. -/
set_option linter.all false
namespace Go.Sim
class Fl (α:Type) where
  zero:α
  one:α
  add:α→α→α
  mul:α→α→α
  neg:α→α
  inv:α→α
  add_comm:∀ a b,add a b=add b a
  add_assoc:∀ a b c,add (add a b) c=add a (add b c)
  add_zero:∀ a,add a zero=a
  add_neg:∀ a,add a (neg a)=zero
  mul_comm:∀ a b,mul a b=mul b a
  mul_assoc:∀ a b c,mul (mul a b) c=mul a (mul b c)
  mul_one:∀ a,mul a one=a
  mul_add:∀ a b c,mul a (add b c)=add (mul a b) (mul a c)
  mul_inv:∀ a,a≠zero→mul a (inv a)=one
  one_ne:one≠zero
section
variable {α:Type} [F:Fl α]
open Fl
theorem Fl.zero_add (a:α):add zero a=a:=by rw [add_comm,add_zero]
theorem Fl.add_left_cancel {a b c:α} (h:add a b=add a c):b=c:=by
  have h1:add (neg a) (add a b)=add (neg a) (add a c):=by rw [h]
  rw [←add_assoc,←add_assoc,add_comm (neg a) a,add_neg,Fl.zero_add,Fl.zero_add] at h1
  exact h1
theorem Fl.mul_zero (a:α):mul a zero=zero:=by
  have h:add (mul a zero) (mul a zero)=add (mul a zero) zero:=by rw [←mul_add,add_zero,add_zero]
  exact Fl.add_left_cancel h
theorem Fl.zero_mul (a:α):mul zero a=zero:=by rw [mul_comm,Fl.mul_zero]
theorem Fl.one_mul (a:α):mul one a=a:=by rw [mul_comm,mul_one]
theorem Fl.add_mul (a b c:α):mul (add a b) c=add (mul a c) (mul b c):=by rw [mul_comm,mul_add,mul_comm c a,mul_comm c b]
theorem Fl.add_swap (a b c d:α):add (add a b) (add c d)=add (add a c) (add b d):=by
  rw [add_assoc,add_assoc,←add_assoc b c d,add_comm b c,add_assoc c b d]
abbrev Vc (α:Type):=Nat→α
def vz:Vc α:=fun _=>zero
def va (v w:Vc α):Vc α:=fun j=>add (v j) (w j)
def vs (c:α) (v:Vc α):Vc α:=fun j=>mul c (v j)
theorem qfh (v:Vc α):va v vz=v:=funext fun _=>add_zero _
theorem qpt (v:Vc α):va vz v=v:=funext fun _=>Fl.zero_add _
theorem qhx (u v w:Vc α):va (va u v) w=va u (va v w):=funext fun _=>add_assoc _ _ _
theorem va_comm (u v:Vc α):va u v=va v u:=funext fun _=>add_comm _ _
theorem vs_zero (v:Vc α):vs zero v=vz:=funext fun _=>Fl.zero_mul _
theorem vs_one (v:Vc α):vs one v=v:=funext fun _=>Fl.one_mul _
theorem vs_vz (c:α):vs c (vz:Vc α)=vz:=funext fun _=>Fl.mul_zero _
theorem vs_vs (c d:α) (v:Vc α):vs c (vs d v)=vs (mul c d) v:=funext fun _=>(mul_assoc _ _ _).symm
theorem vs_va (c:α) (v w:Vc α):vs c (va v w)=va (vs c v) (vs c w):=funext fun _=>mul_add _ _ _
theorem add_vs (c d:α) (v:Vc α):vs (add c d) v=va (vs c v) (vs d v):=funext fun _=>Fl.add_mul _ _ _
inductive Span (m:Nat) (R:Nat→Vc α):Vc α→Prop
  | zero:Span m R vz
  | step {v:Vc α} {i:Nat} (c:α):Span m R v→i<m→Span m R (va v (vs c (R i)))
theorem Span.row {m:Nat} {R:Nat→Vc α} {i:Nat} (hi:i<m):Span m R (R i):=by
  have h:=Span.step (R:=R) one .zero hi
  rwa [qpt,vs_one] at h
theorem Span.add {m:Nat} {R:Nat→Vc α} {v w:Vc α} (hv:Span m R v) (hw:Span m R w):Span m R (va v w):=by
  induction hw with
  | zero=>rwa [qfh]
  | step c _ hi ih=>rw [←qhx];exact .step c ih hi
theorem Span.smul {m:Nat} {R:Nat→Vc α} {v:Vc α} (a:α) (hv:Span m R v):Span m R (vs a v):=by
  induction hv with
  | zero=>rw [vs_vz];exact .zero
  | step c _ hi ih=>rw [vs_va,vs_vs];exact .step _ ih hi
theorem Span.mono {m m':Nat} {R R':Nat→Vc α} (h:∀ i,i<m→Span m' R' (R i)) {v:Vc α} (hv:Span m R v):Span m' R' v:=by
  induction hv with
  | zero=>exact .zero
  | step c _ hi ih=>exact ih.add ((h _ hi).smul c)
structure Red (m:Nat) (R:Nat→Vc α) (P:Nat→Nat):Prop where
  inc:∀ i j,i<j→j<m→P i<P j
  one:∀ i,i<m→R i (P i)=one
  alone:∀ i k,i<m→k<m→i≠k→R k (P i)=zero
  lead:∀ i j,i<m→j<P i→R i j=zero
def comb (c:Nat→α) (R:Nat→Vc α):Nat→Vc α
  | 0=>vz
  | k+1=>va (comb c R k) (vs (c k) (R k))
theorem qhp (R:Nat→Vc α) (c:Nat→α):∀ m,(∀ i,i<m→c i=zero)→comb c R m=vz
  | 0,_=>rfl
  | k+1,h=>by rw [comb,qhp R c k (fun i hi=>h i (by omega)),h k (by omega),vs_zero,qfh]
theorem comb_add (R:Nat→Vc α) (c d e:Nat→α):∀ m,(∀ i,i<m→e i=add (c i) (d i))→comb e R m=va (comb c R m) (comb d R m)
  | 0,_=>(qfh _).symm
  | k+1,h=>by
    rw [comb,comb,comb,comb_add R c d e k (fun i hi=>h i (by omega)),h k (by omega),add_vs]
    funext j
    exact Fl.add_swap _ _ _ _
theorem qkw (R:Nat→Vc α) (a:α) (i:Nat) (c:Nat→α):∀ m,i<m→c i=a→(∀ k,k<m→k≠i→c k=zero)→comb c R m=vs a (R i)
  | 0,h,_,_=>by omega
  | k + 1,h,ha,hz=>by
    rw [comb]
    by_cases hk:k=i
    · subst hk
      rw [qhp R c _ (fun j hj=>hz j (by omega) (by omega)),qpt,ha]
    · rw [qkw R a i c k (by omega) ha (fun j hj hne=>hz j (by omega) hne),hz k (by omega) hk,vs_zero,qfh]
theorem Red.coord {m:Nat} {R:Nat→Vc α} {P:Nat→Nat} (h:Red m R P) {v:Vc α} (hv:Span m R v):v=comb (fun i=>v (P i)) R m:=by
  induction hv with
  | zero=>exact (qhp R _ _ (fun i _=>rfl)).symm
  | @step w i c _ hi ih =>
    rw [comb_add R (fun k=>w (P k)) (fun k=>mul c (R i (P k))) (fun k=>va w (vs c (R i)) (P k)) m (fun k _=>rfl),←ih]
    congr 1
    refine (qkw R c i _ m hi ?_ (fun k hk hne=>?_)).symm
    · rw [h.one i hi,mul_one]
    · rw [h.alone k i hk hi hne,Fl.mul_zero]
theorem comb_at (R:Nat→Vc α) (c:Nat→α) (j:Nat):∀ m,(∀ i,i<m→c i=zero∨R i j=zero)→comb c R m j=zero
  | 0,_=>rfl
  | k+1,h=>by
    show add (comb c R k j) (mul (c k) (R k j))=zero
    rw [comb_at R c j k (fun i hi=>h i (by omega))]
    rcases h k (by omega) with h1|h1<;>rw [h1]
    · rw [Fl.zero_mul,add_zero]
    · rw [Fl.mul_zero,add_zero]
theorem Red.first {m:Nat} {R:Nat→Vc α} {P:Nat→Nat} (h:Red m R P) {v:Vc α} (hv:Span m R v) {j:Nat} (hj:v j≠zero) (h0:∀ k,k<j→v k=zero):∃ i,i<m∧P i=j:=by
  apply Classical.byContradiction
  intro hn
  apply hj
  have hc:=h.coord hv
  rw [hc]
  refine comb_at R _ j m (fun i hi=>?_)
  rcases Nat.lt_trichotomy (P i) j with h1|h1|h1
  · exact .inl (h0 _ h1)
  · exact absurd ⟨i,hi,h1⟩ hn
  · exact .inr (h.lead i j hi h1)
theorem rise_eq {m m':Nat} {P P':Nat→Nat} (h:∀ i j,i<j→j<m→P i<P j) (h':∀ i j,i<j→j<m'→P' i<P' j) (h1:∀ i,i<m→∃ k,k<m'∧P' k=P i) (h2:∀ i,i<m'→∃ k,k<m∧P k=P' i):∀ i,(i<m↔i<m')∧(i<m→P i=P' i):=by
  intro i
  induction i using Nat.strongRecOn with
  | ind i ih =>
    have a1:i<m→i<m':=fun hi=>by
      obtain⟨k,hk,e⟩:=h1 i hi
      rcases Nat.lt_or_ge k i with hlt|hge
      · have:=(ih k hlt).2 (by omega)
        have:=h k i hlt hi
        omega
      · omega
    have a2:i<m'→i<m:=fun hi=>by
      obtain⟨k,hk,e⟩:=h2 i hi
      rcases Nat.lt_or_ge k i with hlt|hge
      · have:=(ih k hlt).2 hk
        have:=h' k i hlt hi
        omega
      · omega
    refine⟨⟨a1,a2⟩,fun hi=>?_⟩
    obtain⟨k,hk,e⟩:=h1 i hi
    obtain⟨l,hl,e'⟩:=h2 i (a1 hi)
    rcases Nat.lt_trichotomy k i with hlt|rfl|hgt
    · have:=(ih k hlt).2 (by omega)
      have:=h k i hlt hi
      omega
    · exact e.symm
    · rcases Nat.lt_trichotomy l i with hlt|rfl|hgt2
      · have:=(ih l hlt).2 hl
        have:=h' l i hlt (a1 hi)
        omega
      · exact e'
      · have:=h' i k hgt hk
        have:=h i l hgt2 hl
        omega
theorem Red.unique {m m':Nat} {R R':Nat→Vc α} {P P':Nat→Nat} (h:Red m R P) (h':Red m' R' P') (h1:∀ i,i<m→Span m' R' (R i)) (h2:∀ i,i<m'→Span m R (R' i)):m=m'∧(∀ i,i<m→P i=P' i)∧∀ i,i<m→R i=R' i:=by
  have q1:∀ i,i<m→∃ k,k<m'∧P' k=P i:=fun i hi=>h'.first (h1 i hi) (by rw [h.one i hi];exact one_ne) (fun k hk=>h.lead i k hi hk)
  have q2:∀ i,i<m'→∃ k,k<m∧P k=P' i:=fun i hi=>h.first (h2 i hi) (by rw [h'.one i hi];exact one_ne) (fun k hk=>h'.lead i k hi hk)
  have key:=rise_eq h.inc h'.inc q1 q2
  have hm:m=m':=by
    rcases Nat.lt_trichotomy m m' with hlt|he|hgt
    · have:=(key m).1;omega
    · exact he
    · have:=(key m').1;omega
  refine⟨hm,fun i hi=>(key i).2 hi,fun i hi=>?_⟩
  subst hm
  have hc:=h.coord (h2 i hi)
  have hu:=qkw R Fl.one i (fun k=>R' i (P k)) m hi (by show R' i (P i)=_;rw [(key i).2 hi,h'.one i hi]) (fun k hk hne=>by show R' i (P k)=_;rw [(key k).2 hk];exact h'.alone k i hk hi hne)
  rw [hc,hu,vs_one]
end
end Go.Sim
