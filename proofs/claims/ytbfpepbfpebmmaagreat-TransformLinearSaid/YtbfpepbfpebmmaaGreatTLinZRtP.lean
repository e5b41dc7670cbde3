/- Part of the proof: ZRtP. -/
set_option linter.all false
namespace Go.Sim
def rN (a:Int) (m:Nat):Int:=if a<0 then -((a.natAbs / Nat.gcd a.natAbs m:Nat):Int) else ((a.natAbs / Nat.gcd a.natAbs m:Nat):Int)
def rD (a:Int) (m:Nat):Nat:=m / Nat.gcd a.natAbs m
theorem qpg {n:Int} {d:Nat} {a:Int} {m:Nat} (hm:0<m) (hd:0<d) (h:n*m=a*d) (hc:Nat.gcd n.natAbs d=1):n=rN a m∧d=rD a m:=by
  have h1:n.natAbs*m=a.natAbs*d:=by
    have:=congrArg Int.natAbs h
    rwa [Int.natAbs_mul,Int.natAbs_mul,Int.natAbs_natCast,Int.natAbs_natCast] at this
  have hg:0<Nat.gcd a.natAbs m:=Nat.gcd_pos_of_pos_right _ hm
  obtain⟨a',ha'⟩:=Nat.gcd_dvd_left a.natAbs m
  obtain⟨m',hm'⟩:=Nat.gcd_dvd_right a.natAbs m
  have hcop:Nat.Coprime a' m':=by
    have:=Nat.coprime_div_gcd_div_gcd hg
    rwa [Nat.div_eq_of_eq_mul_right hg ha',Nat.div_eq_of_eq_mul_right hg hm'] at this
  have h2:n.natAbs*m'=a'*d:=by
    generalize Nat.gcd a.natAbs m=g at *
    rw [ha',hm'] at h1
    refine Nat.eq_of_mul_eq_mul_left hg ?_
    rw [←Nat.mul_assoc,←Nat.mul_assoc,←h1,Nat.mul_comm g,Nat.mul_assoc]
  have h3:m' ∣ d:=hcop.symm.dvd_of_dvd_mul_left (⟨n.natAbs,by rw [←h2,Nat.mul_comm]⟩)
  have h4:d ∣ m':=(Nat.Coprime.symm hc).dvd_of_dvd_mul_left (⟨a',by rw [h2,Nat.mul_comm]⟩)
  have h5:d=m':=Nat.dvd_antisymm h4 h3
  subst h5
  have h6:n.natAbs=a':=Nat.eq_of_mul_eq_mul_right hd h2
  have e1:a.natAbs / Nat.gcd a.natAbs m=a':=Nat.div_eq_of_eq_mul_right hg ha'
  have e2:m / Nat.gcd a.natAbs m=d:=Nat.div_eq_of_eq_mul_right hg hm'
  refine⟨?_,by unfold rD;rw [e2]⟩
  unfold rN
  rw [e1]
  have hs:n<0↔a<0:=by
    constructor
    · intro hn
      have:n*m<0:=Int.mul_neg_of_neg_of_pos hn (by omega)
      rcases Int.lt_or_le a 0 with h'|h'
      · exact h'
      · have:=Int.mul_nonneg h' (show (0:Int)≤d by omega);omega
    · intro hn
      have:a*d<0:=Int.mul_neg_of_neg_of_pos hn (by omega)
      rcases Int.lt_or_le n 0 with h'|h'
      · exact h'
      · have:=Int.mul_nonneg h' (show (0:Int)≤m by omega);omega
  by_cases hn:a<0
  · rw [if_pos hn];have:=hs.2 hn;omega
  · rw [if_neg hn];have:¬n<0:=fun h=>hn (hs.1 h);omega
theorem qm0 {a:Int} {m:Nat} (hm:0<m):rN a m*m=a*rD a m∧Nat.gcd (rN a m).natAbs (rD a m)=1∧0<rD a m:=by
  have hg:0<Nat.gcd a.natAbs m:=Nat.gcd_pos_of_pos_right _ hm
  obtain⟨a',ha'⟩:=Nat.gcd_dvd_left a.natAbs m
  obtain⟨m',hm'⟩:=Nat.gcd_dvd_right a.natAbs m
  have e1:a.natAbs / Nat.gcd a.natAbs m=a':=Nat.div_eq_of_eq_mul_right hg ha'
  have e2:m / Nat.gcd a.natAbs m=m':=Nat.div_eq_of_eq_mul_right hg hm'
  have hcop:Nat.gcd a' m'=1:=by
    have:=Nat.coprime_div_gcd_div_gcd hg
    rwa [e1,e2] at this
  have ex:∃ g:Nat,a.natAbs=g*a'∧m=g*m':=⟨_,ha',hm'⟩
  unfold rN rD
  rw [e1,e2]
  clear e1 e2 ha' hm'
  obtain⟨g,h1,h2⟩:=ex
  have hm1:0<m':=by
    rcases Nat.eq_zero_or_pos m' with h|h
    · subst h;simp at h2;omega
    · exact h
  by_cases hn:a<0
  · rw [if_pos hn]
    have ha:a = -((g*a':Nat):Int):=by omega
    refine⟨?_,by simpa using hcop,hm1⟩
    rw [ha,h2,Int.neg_mul,Int.neg_mul,←Int.natCast_mul,←Int.natCast_mul]
    congr 2
    rw [←Nat.mul_assoc,Nat.mul_comm a' g]
  · rw [if_neg hn]
    have ha:a=((g*a':Nat):Int):=by omega
    refine⟨?_,by simpa using hcop,hm1⟩
    rw [ha,h2,←Int.natCast_mul,←Int.natCast_mul]
    congr 1
    rw [←Nat.mul_assoc,Nat.mul_comm a' g]
theorem red_eq {a b:Int} {m l:Nat} (hm:0<m) (hl:0<l) (h:a*l=b*m):rN a m=rN b l∧rD a m=rD b l:=by
  obtain⟨h1,h2,h3⟩:=qm0 (a:=a) hm
  refine qpg hl h3 ?_ h2
  have e:(rN a m*l)*m=(b*rD a m)*m:=by
    rw [Int.mul_assoc,Int.mul_comm (l:Int),←Int.mul_assoc,h1,Int.mul_assoc,Int.mul_comm (rD a m:Int),←Int.mul_assoc,h,Int.mul_assoc,Int.mul_assoc,Int.mul_comm (m:Int)]
  exact Int.eq_of_mul_eq_mul_right (by omega) e
theorem red_le {a:Int} {m:Nat}:(rN a m).natAbs≤a.natAbs∧rD a m≤m:=by
  unfold rN rD
  have h1:=Nat.div_le_self a.natAbs (Nat.gcd a.natAbs m)
  have h2:=Nat.div_le_self m (Nat.gcd a.natAbs m)
  refine⟨?_,h2⟩
  generalize a.natAbs / Nat.gcd a.natAbs m=k at *
  split<;>omega
theorem qh4 {m:Nat} (hm:0<m):rN 0 m=0∧rD 0 m=1:=by
  unfold rN rD
  simp [Nat.div_self hm]
theorem red_sign {a:Int} {m:Nat} (hm:0<m):(rN a m<0↔a<0)∧(rN a m=0↔a=0):=by
  obtain⟨h1,h2,h3⟩:=qm0 (a:=a) hm
  constructor
  · unfold rN
    by_cases h:a<0
    · rw [if_pos h]
      have hg:0<Nat.gcd a.natAbs m:=Nat.gcd_pos_of_pos_right _ hm
      have:=Nat.div_pos (Nat.le_of_dvd (by omega) (Nat.gcd_dvd_left a.natAbs m)) hg
      constructor<;>intro _<;>omega
    · rw [if_neg h]
      generalize a.natAbs / Nat.gcd a.natAbs m=k at *
      constructor<;>intro _<;>omega
  · constructor
    · intro h
      rw [h,Int.zero_mul] at h1
      rcases Int.mul_eq_zero.1 h1.symm with h|h
      · exact h
      · omega
    · intro h;subst h;exact (qh4 hm).1
theorem red_add {n1 n2:Int} {D1 D2:Nat} (h1:0<D1) (h2:0<D2) (c1:Nat.gcd n1.natAbs D1=1) (c2:Nat.gcd n2.natAbs D2=1) {t:Int} (ht:t=n1*(D2 / Nat.gcd D1 D2:Nat)+n2*(D1 / Nat.gcd D1 D2:Nat)) :
    (if t<0 then -((t.natAbs / Nat.gcd t.natAbs (Nat.gcd D1 D2):Nat):Int) else ((t.natAbs / Nat.gcd t.natAbs (Nat.gcd D1 D2):Nat):Int))=rN (n1*D2+n2*D1) (D1*D2)∧D1 / Nat.gcd D1 D2*(D2 / Nat.gcd t.natAbs (Nat.gcd D1 D2))=rD (n1*D2+n2*D1) (D1*D2):=by
  have hg:0<Nat.gcd D1 D2:=Nat.gcd_pos_of_pos_left _ h1
  obtain⟨d1,hd1⟩:=Nat.gcd_dvd_left D1 D2
  obtain⟨d2,hd2⟩:=Nat.gcd_dvd_right D1 D2
  have e1:D1 / Nat.gcd D1 D2=d1:=Nat.div_eq_of_eq_mul_right hg hd1
  have e2:D2 / Nat.gcd D1 D2=d2:=Nat.div_eq_of_eq_mul_right hg hd2
  have hcop:Nat.Coprime d1 d2:=by
    have:=Nat.coprime_div_gcd_div_gcd hg
    rwa [e1,e2] at this
  rw [e1,e2] at ht
  rw [e1]
  generalize Nat.gcd D1 D2=g at *
  have p1:0<d1:=by rcases Nat.eq_zero_or_pos d1 with h|h;(subst h;simp at hd1;omega);exact h
  have p2:0<d2:=by rcases Nat.eq_zero_or_pos d2 with h|h;(subst h;simp at hd2;omega);exact h
  have tc1:Nat.Coprime t.natAbs d1:=by
    have k:Int.gcd t d1=1:=by
      have:Int.gcd t d1=Int.gcd (n1*d2) d1:=by
        rw [ht]
        exact Int.gcd_add_mul_right_left ..
      rw [this]
      show Nat.gcd (n1*d2).natAbs (d1:Int).natAbs=1
      rw [Int.natAbs_mul,Int.natAbs_natCast,Int.natAbs_natCast]
      exact Nat.Coprime.mul_left ((show Nat.Coprime n1.natAbs D1 from c1).coprime_dvd_right ⟨g,by rw [hd1,Nat.mul_comm]⟩) hcop.symm
    exact k
  have tc2:Nat.Coprime t.natAbs d2:=by
    have k:Int.gcd t d2=1:=by
      have:Int.gcd t d2=Int.gcd (n2*d1) d2:=by
        rw [ht,Int.add_comm]
        exact Int.gcd_add_mul_right_left ..
      rw [this]
      show Nat.gcd (n2*d1).natAbs (d2:Int).natAbs=1
      rw [Int.natAbs_mul,Int.natAbs_natCast,Int.natAbs_natCast]
      exact Nat.Coprime.mul_left ((show Nat.Coprime n2.natAbs D2 from c2).coprime_dvd_right ⟨g,by rw [hd2,Nat.mul_comm]⟩) hcop
    exact k
  have hh:0<Nat.gcd t.natAbs g:=Nat.gcd_pos_of_pos_right _ hg
  obtain⟨t',ht'⟩:=Nat.gcd_dvd_left t.natAbs g
  obtain⟨g',hg'⟩:=Nat.gcd_dvd_right t.natAbs g
  have e3:t.natAbs / Nat.gcd t.natAbs g=t':=Nat.div_eq_of_eq_mul_right hh ht'
  have e4:D2 / Nat.gcd t.natAbs g=g'*d2:=by
    refine Nat.div_eq_of_eq_mul_right hh ?_
    rw [←Nat.mul_assoc,←hg'];exact hd2
  have hcop2:Nat.Coprime t' g':=by
    have:=Nat.coprime_div_gcd_div_gcd hh
    rwa [e3,Nat.div_eq_of_eq_mul_right hh hg'] at this
  rw [e3,e4]
  have p3:0<g':=by rcases Nat.eq_zero_or_pos g' with h|h;(rw [h,Nat.mul_zero] at hg';omega);exact h
  have hT:(if t<0 then -(t':Int) else (t':Int)).natAbs=t':=by split<;>omega
  have hS:(if t<0 then -(t':Int) else (t':Int))*(Nat.gcd t.natAbs g:Nat)=t:=by
    have:((t.natAbs:Nat):Int)=(Nat.gcd t.natAbs g:Nat)*(t':Int):=by rw [←Int.natCast_mul,←ht']
    by_cases hn:t<0
    · rw [if_pos hn,Int.neg_mul,Int.mul_comm,←this];omega
    · rw [if_neg hn,Int.mul_comm,←this];omega
  have ct':Nat.Coprime t' d1:=tc1.coprime_dvd_left ⟨_,by rw [Nat.mul_comm];exact ht'⟩
  have ct2:Nat.Coprime t' d2:=tc2.coprime_dvd_left ⟨_,by rw [Nat.mul_comm];exact ht'⟩
  refine qpg (Nat.mul_pos h1 h2) (Nat.mul_pos p1 (Nat.mul_pos p3 p2)) ?_ ?_
  · generalize (if t<0 then -(t':Int) else (t':Int))=s at *
    generalize Nat.gcd t.natAbs g=h at *
    subst hg'
    rw [hd1,hd2,show n1*((h*g'*d2:Nat):Int)+n2*((h*g'*d1:Nat):Int)=(n1*d2+n2*d1)*(h*g':Nat) by
      rw [Int.add_mul,Int.natCast_mul (h*g') d2,Int.natCast_mul (h*g') d1,Int.mul_assoc,Int.mul_assoc,Int.mul_comm (d2:Int),Int.mul_comm (d1:Int)],←ht,←hS]
    push_cast
    simp only [Int.mul_assoc,Int.mul_left_comm,Int.mul_comm]
  · rw [hT]
    exact Nat.Coprime.mul_right ct' (Nat.Coprime.mul_right hcop2 ct2)
theorem red_mul {n1 n2:Int} {D1 D2:Nat} (h1:0<D1) (h2:0<D2) (c1:Nat.gcd n1.natAbs D1=1) (c2:Nat.gcd n2.natAbs D2=1) {g h:Nat} (hg:g=Nat.gcd n1.natAbs D2) (hh:h=Nat.gcd n2.natAbs D1) :
    (if n1*n2<0 then -((n1.natAbs / g*(n2.natAbs / h):Nat):Int) else ((n1.natAbs / g*(n2.natAbs / h):Nat):Int))=rN (n1*n2) (D1*D2)∧D1 / h*(D2 / g)=rD (n1*n2) (D1*D2):=by
  have pg:0<g:=by rw [hg];exact Nat.gcd_pos_of_pos_right _ h2
  have ph:0<h:=by rw [hh];exact Nat.gcd_pos_of_pos_right _ h1
  have hgd:Nat.Coprime (n1.natAbs / g) (D2 / g):=by rw [hg] at pg ⊢;exact Nat.coprime_div_gcd_div_gcd pg
  have hhd:Nat.Coprime (n2.natAbs / h) (D1 / h):=by rw [hh] at ph ⊢;exact Nat.coprime_div_gcd_div_gcd ph
  obtain⟨a,ha⟩:g ∣ n1.natAbs:=by rw [hg];exact Nat.gcd_dvd_left _ _
  obtain⟨b,hb⟩:g ∣ D2:=by rw [hg];exact Nat.gcd_dvd_right _ _
  obtain⟨c,hc⟩:h ∣ n2.natAbs:=by rw [hh];exact Nat.gcd_dvd_left _ _
  obtain⟨d,hd⟩:h ∣ D1:=by rw [hh];exact Nat.gcd_dvd_right _ _
  clear hg hh
  have e1:=Nat.div_eq_of_eq_mul_right pg ha
  have e2:=Nat.div_eq_of_eq_mul_right pg hb
  have e3:=Nat.div_eq_of_eq_mul_right ph hc
  have e4:=Nat.div_eq_of_eq_mul_right ph hd
  rw [e1,e2] at hgd
  rw [e3,e4] at hhd
  rw [e1,e2,e3,e4]
  have pb:0<b:=by rcases Nat.eq_zero_or_pos b with h|h;(subst h;simp at hb;omega);exact h
  have pd:0<d:=by rcases Nat.eq_zero_or_pos d with h|h;(subst h;simp at hd;omega);exact h
  refine qpg (Nat.mul_pos h1 h2) (Nat.mul_pos pd pb) ?_ ?_
  · have hN:(n1*n2).natAbs=(g*a)*(h*c):=by rw [Int.natAbs_mul,ha,hc]
    have key:∀ s:Int,(s = -((a*c:Nat):Int)∧n1*n2 = -(((g*a)*(h*c):Nat):Int))∨(s=((a*c:Nat):Int)∧n1*n2=(((g*a)*(h*c):Nat):Int))→s*((D1*D2:Nat):Int)=n1*n2*((d*b:Nat):Int):=by
      rintro s (⟨rfl,h'⟩|⟨rfl,h'⟩)
      · rw [h',hd,hb,Int.neg_mul,Int.neg_mul,←Int.natCast_mul,←Int.natCast_mul]
        congr 2
        simp only [Nat.mul_assoc,Nat.mul_left_comm,Nat.mul_comm]
      · rw [h',hd,hb,←Int.natCast_mul,←Int.natCast_mul]
        congr 1
        simp only [Nat.mul_assoc,Nat.mul_left_comm,Nat.mul_comm]
    refine key _ ?_
    by_cases hn:n1*n2<0
    · rw [if_pos hn];exact .inl ⟨rfl,by omega⟩
    · rw [if_neg hn];exact .inr ⟨rfl,by omega⟩
  · have hT:(if n1*n2<0 then -((a*c:Nat):Int) else ((a*c:Nat):Int)).natAbs=a*c:=by split<;>omega
    rw [hT]
    have k1:Nat.Coprime a d:=(show Nat.Coprime n1.natAbs D1 from c1).coprime_dvd_left ⟨g,by rw [ha,Nat.mul_comm]⟩ |>.coprime_dvd_right ⟨h,by rw [hd,Nat.mul_comm]⟩
    have k2:Nat.Coprime c b:=(show Nat.Coprime n2.natAbs D2 from c2).coprime_dvd_left ⟨h,by rw [hc,Nat.mul_comm]⟩ |>.coprime_dvd_right ⟨g,by rw [hb,Nat.mul_comm]⟩
    exact Nat.Coprime.mul_left (Nat.Coprime.mul_right k1 hgd) (Nat.Coprime.mul_right hhd k2)
end Go.Sim
