/- Part of the proof: MoA, ZPfMatA, ZPfMatB, ZSpF, MoB, MoC, MoP, MoQ, MoR, MoD, MoE, MoF, MoH, MoI, MoJ. -/
import Derived.Test.YtbfpepbfpebmmaaGreatMMatZMoG
import Derived.Test.YtbfpepbfpebmmaaGreatMMatZMoH
import Derived.Test.YtbfpepbfpebmmaaGreatMMatZSpAToZSpU
import Derived.Test.YtbfpepbfpebmmaaGreatMMatShLw
import Derived.Test.YtbfpepbfpebmmaaGreatMMatZPfFieldT
import Derived.Test.YtbfpepbfpebmmaaGreatMMatZPfFieldOToZPfFieldS
import Derived.Test.YtbfpepbfpebmmaaGreatMMatZPfFieldW0
import Derived.Test.YtbfpepbfpebmmaaGreatMMatZPfFieldK
import Derived.Test.YtbfpepbfpebmmaaGreatMMatZPfFieldL
import Derived.Test.YtbfpepbfpebmmaaGreatMMatSimWToSimX2
set_option linter.all false
namespace Go.Sim
open Go Go.Proofs
theorem Row.someV {H:AH} {v:Value} {cs:List Value} (h:Row H v cs) (h0:cs≠[]):∃ a l c,v=.slice (some a) l c:=by
  rcases h with ⟨rfl,_⟩|⟨b,o,c,cc,e,op,r,rfl,_⟩
  · exact absurd rfl h0
  · exact⟨_,_,_,rfl⟩
theorem xbin_eqn {a:Addr} {l c:Nat}:xbin .eql 2 (.slice (some a) l c) (.slice none 0 0)=some (.bool false):=rfl
theorem Acc.own {H0 H:AH} {v:Value} {cs:List Value} {e:TypeId} (h:Acc H0 H v cs e) (h0:cs≠[]):Own H0 H v cs e:=by
  rcases h with ⟨h,_⟩|h
  · exact absurd h h0
  · exact h
section
variable {H:AH}
theorem clone_c {v:Value} {cs:List Value} (hv:Row H v cs) (h0:cs≠[]) (h1:cs.all one=true) (hl:cs.length≤100000) :
    FN Tryz.prog 102 [v] H (fun r H'=>Pre H H'∧Own H H' r cs 3):=by
  refine g102_of ?_
  unfold g102
  obtain⟨a,l,c,rfl⟩:=hv.someV h0
  obtain⟨v',H',e1,ha,hp,_⟩:=Acc.appR (H0:=H) (H:=H++[.cells [] 3 none false]) (by_:=8) (by simp) (Own.new (Nat.le_refl _) (cs:=[]) rfl (Y:=[])).acc ((hv.pre (Pre.new H _)).x h0) h1 (by simp;omega) (by simp;omega)
  simp only [List.length_nil,List.nil_append] at e1 ha
  simp (disch:=(first|omega|(simp only [qbj]<;>omega)|(simp only [qbg];done)|rfl)) only [zA,zB,zC,zD,zF,zG,zH,Nat.reduceEqDiff,Nat.reduceLT,Nat.reduceLeDiff,↓reduceIte,xbin_eqn,e1]
  exact⟨hp (Pre.new _ _),ha.own h0⟩
theorem del_app {b n i:Nat} {cs:List Value} {e e':TypeId} {op:Option Nat} {by_:Nat} (hb:H[b]? = some (.cells cs e op false)) (hn:cs.length=n) (hi:i<n) (h1:cs.all one=true) (hlen:n*by_≤140737488355328) (hl2:n≤100000) :
    ∃ u,qbc (.slS 1 true false) [.slice (some ⟨b,0,none⟩) n n,nv (i+1)]=some u ∧
      xact (.app e' 1 by_) H [.slice (some ⟨b,0,none⟩) i n,u]=some (.slice (some ⟨b,0,none⟩) (n-1) n,H.set b (.cells (cs.take i++(cs.drop (i+1)++cs.drop (n-1))) e op false)):=by
  have hlt:=qbx hb
  have hmul:(i+(n-(i+1)))*by_≤140737488355328:=Nat.le_trans (Nat.mul_le_mul_right _ (by omega)) hlen
  by_cases hc:i+1<n
  · refine⟨.slice (some ⟨b,i+1,none⟩) (n-(i+1)) (n-(i+1)),?_,?_⟩
    · simp only [qbc,bnds,Option.getD_some,Option.getD_none]
      rw [if_pos ⟨trivial,by omega,by omega,by omega⟩,if_neg (by omega),if_pos (by omega)]
      simp
    · have he:erow H (.slice (some ⟨b,i+1,none⟩) (n-(i+1)) (n-(i+1))) (n-(i+1))=some (cs.drop (i+1)):=by
        unfold erow
        simp only [hb]
        rw [if_pos (by omega),List.take_of_length_le (by simp;omega)]
      unfold xact
      simp only [slen,Nat.mul_one,he]
      have hall:(cs.drop (i+1)).all one=true:=by
        rw [List.all_eq_true] at h1 ⊢
        exact fun x hx=>h1 x (List.mem_of_mem_drop hx)
      rw [if_pos ⟨hmul,by omega,hall⟩]
      simp only [hb]
      rw [if_pos (by omega),if_neg (by omega),if_pos ⟨trivial,by simp;omega⟩]
      have e1:i+(n-(i+1))=n-1:=by omega
      rw [e1]
      have e2:putL cs (0+i) (cs.drop (i+1))=cs.take i++(cs.drop (i+1)++cs.drop (n-1)):=by
        rw [qmz (by simp;omega)]
        unfold qcp
        simp only [Nat.zero_add,List.length_drop,List.append_assoc]
        rw [show i+(cs.length-(i+1))=n-1 by omega]
      rw [e2]
  · have hin:i=n-1:=by omega
    refine⟨.slice (some ⟨b,0,some 0⟩) 0 0,?_,?_⟩
    · simp only [qbc,bnds,Option.getD_some,Option.getD_none]
      rw [if_pos ⟨trivial,by omega,by omega,by omega⟩,if_neg (by omega),if_neg (by omega)]
    · have he:erow H (.slice (some ⟨b,0,some 0⟩) 0 0) 0=some []:=rfl
      unfold xact
      simp only [slen,Nat.mul_one,he]
      rw [if_pos ⟨by simpa using Nat.le_trans (Nat.mul_le_mul_right _ (by omega)) hlen,by omega,rfl⟩]
      simp only [hb]
      rw [if_pos (by omega)]
      simp only [if_true]
      have e2:cs.take i++(cs.drop (i+1)++cs.drop (n-1))=cs:=by
        rw [List.drop_of_length_le (i:=i+1) (by omega),List.nil_append,←hin,List.take_append_drop]
      rw [e2]
      have:H.set b (.cells cs e op false)=H:=by
        refine List.ext_getElem? fun k=>?_
        by_cases hk:k=b
        · subst hk;rw [List.getElem?_set_self hlt,hb]
        · rw [List.getElem?_set_ne (Ne.symm hk)]
      rw [this,←hin]
theorem del_clr {b n:Nat} {xs:List Value} {e:TypeId} {op:Option Nat} {z:Value} (hz:one z=true) (hb:H[b]? = some (.cells xs e op false)) (hn:xs.length=n) (h0:0<n) :
    ∃ u,qbc (.slS 1 true true) [.slice (some ⟨b,0,none⟩) (n-1) n,nv (n-1),nv n]=some u ∧
      xact (.clr [z]) H [u]=some (.tuple #[],H.set b (.cells (xs.take (n-1)++[z]) e op false)):=by
  have hzc:∀ k,k=1→(Builtin.zeroCells [z].toArray k).toList=[z]:=by intro k hk;rw [qkk,hk];rfl
  have hsp:qcp xs (n-1) [z]=xs.take (n-1)++[z]:=by
    unfold qcp
    rw [List.drop_of_length_le (by simp;omega),List.append_nil]
  by_cases hc:n=1
  · refine⟨.slice (some ⟨b,0,none⟩) 1 1,?_,?_⟩
    · subst hc;rfl
    · unfold xact
      simp only [hb,hzc]
      rw [if_pos ⟨by omega,by simp [hz],by simp;omega⟩]
      subst hc
      rw [←hsp]
  · refine⟨.slice (some ⟨b,n-1,none⟩) 1 1,?_,?_⟩
    · simp only [qbc,bnds,Option.getD_some,Option.getD_none]
      rw [if_pos ⟨trivial,by omega,by omega,by omega⟩,if_neg (by omega),if_pos (by omega)]
      simp
      omega
    · unfold xact
      simp only [hb,hzc]
      rw [if_pos ⟨by omega,by simp [hz],by simp;omega⟩,hsp]
theorem qsb {β:Type} (l:List β) (i:Nat):l.eraseIdx i=l.take i++l.drop (i+1):=List.eraseIdx_eq_take_drop_succ ..
theorem sl3_ok {b n i:Nat} (hi:i<n):qbc (.sl3 1) [.slice (some ⟨b,0,none⟩) n n,nv i,nv (i+1),nv n]=some (.slice (some ⟨b,i,none⟩) 1 (n-i)):=by
  simp only [qbc]
  rw [if_pos ⟨by omega,by omega,by omega,by omega,by omega⟩]
  simp
theorem slhi_ok {b n i:Nat} (hi:i<n):qbc (.slS 1 false true) [.slice (some ⟨b,0,none⟩) n n,nv i]=some (.slice (some ⟨b,0,none⟩) i n):=qf8 (by omega)
theorem del_row {b n i:Nat} {cs:List Value} {e:TypeId} {op:Option Nat} {z:Value} {Y:List Value} (hn:cs.length=n) (hi:i<n) (hlt:b<H.length) (hY:Y=(cs.take i++(cs.drop (i+1)++cs.drop (n-1))).take (n-1)++[z]):RowX (H.set b (.cells Y e op false)) (.slice (some ⟨b,0,none⟩) (n-1) n) (cs.eraseIdx i):=by
  have h1:(cs.take i++cs.drop (i+1)).length=n-1:=by simp;omega
  have h2:Y=cs.eraseIdx i++[z]:=by
    rw [hY,qsb,←List.append_assoc,List.take_append_of_le_length (by omega),List.take_of_length_le (by omega)]
  have hel:(cs.eraseIdx i).length=n-1:=by rw [qsb];exact h1
  have hg:(H.set b (.cells Y e op false))[b]? = some (.cells Y e op false):=List.getElem?_set_self hlt
  have:=RowX.of_take (k:=n-1) (c:=n) hg (by rw [h2,List.length_append,hel];omega) (by omega)
  rw [h2,List.take_append_of_le_length (by omega),List.take_of_length_le (by omega)] at this
  rw [h2];exact this
theorem delete_c {H0:AH} {v:Value} {cs:List Value} {i:Nat} (h:Own H0 H v cs 3) (hi:i<cs.length) (h1:cs.all one=true) (hl:cs.length≤100000) :
    FN Tryz.prog 178 [v,nv i,nv (i+1)] H (fun r H'=>(∀ x,x<H0.length→H'[x]? = H[x]?)∧H'.length=H.length∧RowX H' r (cs.eraseIdx i)∧Lw.Lo H0.length r):=by
  refine g178_of ?_
  unfold g178
  obtain⟨b,hb0,rfl,op,ho,hb⟩:=h
  obtain⟨n,hn⟩:∃ n,n=cs.length:=⟨_,rfl⟩
  rw [←hn] at hi hl ⊢
  obtain⟨u,e1,e2⟩:=del_app (e':=3) (by_:=8) hb hn.symm hi h1 (by omega) hl
  have hlt:=qbx hb
  have hg:(H.set b (.cells (cs.take i++(cs.drop (i+1)++cs.drop (n-1))) 3 op false))[b]? = some (.cells (cs.take i++(cs.drop (i+1)++cs.drop (n-1))) 3 op false):=List.getElem?_set_self hlt
  obtain⟨u2,e3,e4⟩:=del_clr (z:=nv 0) rfl hg (n:=n) (by simp;omega) (by omega)
  have s1:=sl3_ok (b:=b) hi
  have s2:=slhi_ok (b:=b) hi
  have hne:¬i=i+1:=by omega
  simp (disch:=(first|omega|(simp only [qbj]<;>omega)|(simp only [qbg];done)|rfl)) only [zA,zB,zC,zD,zF,zG,zH,Nat.reduceEqDiff,Nat.reduceLT,Nat.reduceLeDiff,↓reduceIte,s1,hne,s2,e1,e2,e3,e4]
  rw [List.set_set]
  exact⟨fun x hx=>List.getElem?_set_ne (by omega),by simp,del_row hn.symm hi hlt rfl,by rintro a l c hx;cases hx;exact hb0⟩
theorem deleteR_c {H0:AH} {v:Value} {cs:List Value} {i:Nat} (h:Own H0 H v cs 31) (hi:i<cs.length) (h1:cs.all one=true) (hl:cs.length≤100000) :
    FN Tryz.prog 180 [v,nv i,nv (i+1)] H (fun r H'=>∃ b Y op,H0.length≤b∧H[b]? = some (.cells cs 31 op false)∧H'=H.set b (.cells Y 31 op false)∧RowX H' r (cs.eraseIdx i)):=by
  refine g180_of ?_
  unfold g180
  obtain⟨b,hb0,rfl,op,ho,hb⟩:=h
  obtain⟨n,hn⟩:∃ n,n=cs.length:=⟨_,rfl⟩
  rw [←hn] at hi hl ⊢
  obtain⟨u,e1,e2⟩:=del_app (e':=31) (by_:=24) hb hn.symm hi h1 (by omega) hl
  have hlt:=qbx hb
  have hg:(H.set b (.cells (cs.take i++(cs.drop (i+1)++cs.drop (n-1))) 31 op false))[b]? = some (.cells (cs.take i++(cs.drop (i+1)++cs.drop (n-1))) 31 op false):=List.getElem?_set_self hlt
  obtain⟨u2,e3,e4⟩:=del_clr (z:=.slice none 0 0) rfl hg (n:=n) (by simp;omega) (by omega)
  have s1:=sl3_ok (b:=b) hi
  have s2:=slhi_ok (b:=b) hi
  have hne:¬i=i+1:=by omega
  simp (disch:=(first|omega|(simp only [qbj]<;>omega)|(simp only [qbg];done)|rfl)) only [zA,zB,zC,zD,zF,zG,zH,Nat.reduceEqDiff,Nat.reduceLT,Nat.reduceLeDiff,↓reduceIte,s1,hne,s2,e1,e2,e3,e4]
  rw [List.set_set]
  exact⟨b,_,op,hb0,hb,rfl,del_row hn.symm hi hlt rfl⟩
theorem each_c {v:Value} {css Ts:List (List Value)} {F:Nat} {cap:Array Value} (hv:RowR H v css) (hl:Ts.length=css.length) (hn:css.length≤100000) (hp:∀ t∈Ts,t.all qg5=true)
    (hF:∀ k w (H1:AH),k<css.length→Pre H H1→Row H1 w (css.getD k [])→FN Tryz.prog F (w :: cap.toList) H1 (fun r H2=>Pre H1 H2∧Row H2 r (Ts.getD k []))) :
    FN Tryz.prog 113 [v,.func (.func F) #[] cap] H (fun r H'=>Pre H H'∧AccR H H' r Ts 31):=by
  refine g113_of ?_
  unfold g113
  obtain⟨vs,hvs,hvr⟩:=hv
  have hvl:=hvr.1
  obtain⟨vl,_,_,_⟩:=hvs.1.allV
  simp (disch:=(first|omega|(simp only [qbj]<;>omega)|(simp only [qbg];done)|rfl)) only [zA,zB,zC,zD,zF,zG,zH,Nat.reduceEqDiff,Nat.reduceLT,Nat.reduceLeDiff,↓reduceIte,vl]
  refine loopV2.nat css.length (fun k out i H'=>i=nv k∧Pre H H'∧AccR H H' out (Ts.take k) 31) ⟨rfl,Pre.refl _,AccR.nil⟩ ?_ ?_
  · rintro k out i H2 hk ⟨rfl,hp2,ho⟩ J hJ
    obtain⟨_,vi,vd,_⟩:=(hvs.1.pre hp2).allV
    have hk':k<vs.length:=by omega
    simp (disch:=(first|omega|(simp only [qbj]<;>omega)|(simp only [qbg];done)|rfl)) only [zA,zB,zC,zD,zF,zG,zH,Nat.reduceEqDiff,Nat.reduceLT,Nat.reduceLeDiff,↓reduceIte,vi,vd,hk']
    refine FZ.mono (hF k _ H2 hk hp2 ((hvr.2 k hk).pre hp2)) ?_
    rintro r H3 ⟨hp3,hr⟩
    have hkT:k<Ts.length:=by omega
    have hlt:(Ts.take k).length≤100000:=by simp;omega
    have hpre:=hp2.trans hp3
    obtain⟨out',H5,e1,ho',hp',_⟩:=(ho.pre hp3).app1 (by_:=24) hpre.len hr (hp _ (getD_mem hkT)) (by omega) (by omega) (e2:=31)
    simp (disch:=(first|omega|(simp only [qbj]<;>omega)|(simp only [qbg];done)|rfl)) only [zA,zB,zC,zD,zF,zG,zH,Nat.reduceEqDiff,Nat.reduceLT,Nat.reduceLeDiff,↓reduceIte,hr.fill,e1]
    refine hJ _ _ _ ⟨rfl,hp' hpre,?_⟩
    rw [List.take_succ_eq_append_getElem hkT]
    simpa [List.getD_eq_getElem?_getD,List.getElem?_eq_getElem hkT] using ho'
  · rintro out i H3 ⟨rfl,hp3,ho⟩ J
    obtain⟨vl,_,_,_⟩:=(hvs.1.pre hp3).allV
    simp (disch:=(first|omega|(simp only [qbj]<;>omega)|(simp only [qbg];done)|rfl)) only [zA,zB,zC,zD,zF,zG,zH,Nat.reduceEqDiff,Nat.reduceLT,Nat.reduceLeDiff,↓reduceIte,hvl]
    rw [List.take_of_length_le (by omega)] at ho
    exact⟨hp3,ho⟩
end
end Go.Sim

namespace Go.Sim.Pf
structure Lin (p:Nat) (l3 l1 l2:List Nat):Prop where
  n1:l1.length=l3.length
  n2:l2.length=l3.length
  b3:∀ z∈l3,z<p
  b1:∀ z∈l1,z<p
  b2:∀ z∈l2,z<p
  at_:∀ j,∃ t:Int,(l3.getD j 0:Int)=l1.getD j 0+l2.getD j 0+p*t
theorem qm3 {p v i:Nat} {l:List Nat} (h:∀ z∈l,z<p) (hv:v<p):∀ z∈l.set i v,z<p:=by
  intro z hz
  rcases List.mem_or_eq_of_mem_set hz with h1|rfl
  · exact h z h1
  · exact hv
theorem Lin.set {p i v3 v1 v2:Nat} {l3 l1 l2:List Nat} (h:Lin p l3 l1 l2) (h3:v3<p) (h1:v1<p) (h2:v2<p) (hv:∃ t:Int,(v3:Int)=v1+v2+p*t):Lin p (l3.set i v3) (l1.set i v1) (l2.set i v2):=by
  refine⟨by simp [h.n1],by simp [h.n2],qm3 h.b3 h3,qm3 h.b1 h1,qm3 h.b2 h2,fun j=>?_⟩
  by_cases hi:i<l3.length
  · rw [getD_set hi,getD_set (h.n1 ▸ hi),getD_set (h.n2 ▸ hi)]
    by_cases hj:i=j
    · rw [if_pos hj,if_pos hj,if_pos hj];exact hv
    · rw [if_neg hj,if_neg hj,if_neg hj];exact h.at_ j
  · rw [List.set_eq_of_length_le (by omega),List.set_eq_of_length_le (by have:=h.n1;omega),List.set_eq_of_length_le (by have:=h.n2;omega)]
    exact h.at_ j
theorem mod_lin {p a3 a1 a2:Nat} {t:Int} (h:(a3:Int)=a1+a2+p*t):∃ s:Int,((a3 % p:Nat):Int)=(a1 % p:Nat)+(a2 % p:Nat)+p*s:=by
  have e3:=Int.mul_ediv_add_emod (a3:Int) p
  have e1:=Int.mul_ediv_add_emod (a1:Int) p
  have e2:=Int.mul_ediv_add_emod (a2:Int) p
  simp only [Int.natCast_emod]
  generalize (a3:Int) / p=q3 at *
  generalize (a1:Int) / p=q1 at *
  generalize (a2:Int) / p=q2 at *
  exact⟨t-q3+q1+q2,by grind⟩
theorem Lin.fold {p:Nat} {f3 f1 f2:List Nat→Nat→List Nat} (h:∀ k l3 l1 l2,Lin p l3 l1 l2→Lin p (f3 l3 k) (f1 l1 k) (f2 l2 k)):∀ (ks:List Nat) (l3 l1 l2:List Nat),Lin p l3 l1 l2→Lin p (ks.foldl f3 l3) (ks.foldl f1 l1) (ks.foldl f2 l2)
  | [],_,_,_,hl=>hl
  | k :: ks,_,_,_,hl=>Lin.fold h ks _ _ _ (h k _ _ _ hl)
theorem mulL_lin {p e:Nat} {x3 y3 x1 y1 x2 y2:List Nat} (hp:0<p) (h:∀ i k,∃ t:Int,(x3.getD i 0:Int)*y3.getD k 0=x1.getD i 0*y1.getD k 0+x2.getD i 0*y2.getD k 0+p*t):Lin p (mulL p e x3 y3) (mulL p e x1 y1) (mulL p e x2 y2):=by
  refine Lin.fold (fun i l3 l1 l2 hl=>Lin.fold (fun k l3 l1 l2 hl=>?_) _ _ _ _ hl) _ _ _ _ ?_
  · obtain⟨t1,h1⟩:=hl.at_ (i+k)
    obtain⟨t2,h2⟩:=h i k
    refine hl.set (Nat.mod_lt _ hp) (Nat.mod_lt _ hp) (Nat.mod_lt _ hp) (mod_lin (t:=t1+t2) ?_)
    simp only [Int.natCast_add,Int.natCast_mul]
    rw [h1,h2]
    grind
  · have hz:∀ z∈List.replicate (2*e) 0,z<p:=by intro z hz;rw [List.mem_replicate] at hz;omega
    refine⟨rfl,rfl,hz,hz,hz,fun j=>⟨0,?_⟩⟩
    have:(List.replicate (2*e) 0).getD j 0=0:=by
      simp only [List.getD_eq_getElem?_getD,List.getElem?_replicate];split<;>rfl
    rw [this];rfl
theorem restL_lin {p d:Nat} {m l3 l1 l2:List Nat} (hp:0<p) (h:Lin p l3 l1 l2):Lin p (qk5 p d m l3) (qk5 p d m l1) (qk5 p d m l2):=by
  unfold qk5
  rw [h.n1,h.n2]
  refine Lin.fold (fun t l3 l1 l2 hl=>?_) _ _ _ _ h
  unfold qrb
  rw [hl.n1,hl.n2]
  obtain⟨s,hs⟩:=hl.at_ (l3.length-1-t)
  have c3:=getD_lt (k:=l3.length-1-t) hp hl.b3
  have c1:=getD_lt (k:=l3.length-1-t) hp hl.b1
  have c2:=getD_lt (k:=l3.length-1-t) hp hl.b2
  generalize l3.getD (l3.length-1-t) 0=C3 at *
  generalize l1.getD (l3.length-1-t) 0=C1 at *
  generalize l2.getD (l3.length-1-t) 0=C2 at *
  generalize l3.length-1-t-d=B
  refine Lin.fold (fun k l3 l1 l2 hl=>?_) _ _ _ _ hl
  obtain⟨t1,h1⟩:=hl.at_ (B+k)
  refine hl.set (Nat.mod_lt _ hp) (Nat.mod_lt _ hp) (Nat.mod_lt _ hp) (mod_lin (t:=t1-(1+s)*m.getD k 0) ?_)
  have g3:((p-C3:Nat):Int)=(p:Int)-C3:=by omega
  have g1:((p-C1:Nat):Int)=(p:Int)-C1:=by omega
  have g2:((p-C2:Nat):Int)=(p:Int)-C2:=by omega
  simp only [Int.natCast_add,Int.natCast_mul,g3,g1,g2]
  rw [h1,hs]
  grind
theorem digE {p e a:Nat} (j:Nat):(digs p a e).getD j 0=if j<e then dg p a j else 0:=by
  by_cases h:j<e
  · rw [if_pos h,qfb p e a j h];rfl
  · rw [if_neg h,List.getD_eq_getElem?_getD,List.getElem?_eq_none (by rw [qbw];omega)];rfl
theorem rmul_bil {p e:Nat} {m:List Nat} (F:Fd p e m) {a1 b1 a2 b2 a3 b3:Nat} (h:∀ i j,i<e→j<e→∃ t:Int,(dg p a3 i:Int)*dg p b3 j=dg p a1 i*dg p b1 j+dg p a2 i*dg p b2 j+p*t) :
    qfh p e m a3 b3=addF p e (qfh p e m a1 b1) (qfh p e m a2 b2):=by
  have hp:0<p:=by have:=F.p2;omega
  have hL:=restL_lin (d:=e) (m:=m++[1]) hp (mulL_lin (e:=e) (x3:=digs p a3 e) (y3:=digs p b3 e) (x1:=digs p a1 e) (y1:=digs p b1 e) (x2:=digs p a2 e) (y2:=digs p b2 e) hp (fun i k=>by
    simp only [digE]
    by_cases hi:i<e
    · by_cases hk:k<e
      · simp only [hi,hk,if_true];exact h i k hi hk
      · exact⟨0,by simp [hk]⟩
    · exact⟨0,by simp [hi]⟩))
  have hlen:∀ x y,(qk5 p e (m++[1]) (mulL p e (digs p x e) (digs p y e))).length=2*e∧∀ z∈qk5 p e (m++[1]) (mulL p e (digs p x e) (digs p y e)),z<p:=by
    intro x y
    have hz0:∀ z∈List.replicate (2*e) 0,z<p:=by intro z hz;rw [List.mem_replicate] at hz;omega
    have q:=qc6 (f:=mulI p e (digs p x e) (digs p y e)) (p:=p) (n:=2*e) (fun out k h1 h2=>qc6 (fun out k h1 h2=>mulK_ok hp h1 h2) _ _ h1 h2) (List.range e) (List.replicate (2*e) 0) (by simp) hz0
    exact qc6 (f:=qrb p e (m++[1])) (p:=p) (n:=2*e) (fun out k h1 h2=>restI_ok hp h1 h2) _ _ q.1 q.2
  have hdg:∀ x y i,i<e→dg p (qfh p e m x y) i=(qk5 p e (m++[1]) (mulL p e (digs p x e) (digs p y e))).getD i 0:=by
    intro x y i hi
    unfold dg qfh
    rw [qgr hp _ (fun z hz=>(hlen x y).2 z (List.mem_of_mem_take hz))]
    simp only [List.getD_eq_getElem?_getD,List.getElem?_take,if_pos hi]
  have hlt:∀ x y,qfh p e m x y<p ^ e:=by
    intro x y
    have:=qnx (p:=p) hp ((qk5 p e (m++[1]) (mulL p e (digs p x e) (digs p y e))).take e) (fun z hz=>(hlen x y).2 z (List.mem_of_mem_take hz))
    rwa [List.length_take,(hlen x y).1,Nat.min_eq_left (by omega)] at this
  refine qc7 hp e _ _ (hlt _ _) (qf6 hp) (fun i hi=>?_)
  refine Eq.trans ?_ (qd5 (a:=qfh p e m a1 b1) (b:=qfh p e m a2 b2) hp hi).symm
  obtain⟨t,ht⟩:=hL.at_ i
  rw [←hdg _ _ i hi,←hdg _ _ i hi,←hdg _ _ i hi] at ht
  exact mod_of hp (dg_lt hp) ht
def rmB (p e:Nat) (m:List Nat):Bool:=(List.range e).all fun i=>(List.range e).all fun j=>Nat.beq (qfh p e m (p ^ i) (p ^ j)) (mulF p e m (p ^ i) (p ^ j))
theorem rmul_eq {p e:Nat} {m:List Nat} {g:Nat} {E:List Nat} (F:FT p e m g E) (hr:rmB p e m=true) (a b:Nat) (ha:a<p ^ e) (hb:b<p ^ e):qfh p e m a b=mulF p e m a b:=by
  have hp:=F.hp
  have hadd1:∀ a b c,qfh p e m (addF p e a b) c=addF p e (qfh p e m a c) (qfh p e m b c):=fun a b c=>by
    refine rmul_bil F.toFd (fun i j hi hj=>?_)
    obtain⟨t,ht⟩:=qjp (p:=p) (e:=e) (a:=a) (b:=b) hp hi
    exact⟨t*dg p c j,by rw [ht];grind⟩
  have hadd2:∀ a b c,qfh p e m a (addF p e b c)=addF p e (qfh p e m a b) (qfh p e m a c):=fun a b c=>by
    refine rmul_bil F.toFd (fun i j hi hj=>?_)
    obtain⟨t,ht⟩:=qjp (p:=p) (e:=e) (a:=b) (b:=c) hp hj
    exact⟨t*dg p a i,by rw [ht];grind⟩
  have hz:∀ x,addF p e x x=x→x<p ^ e→x=0:=fun x hx hlt=>by
    have h1:=sub_addF (e:=e) (a:=x) (b:=x) hp hlt
    rw [hx] at h1
    have h2:subF p e x x=0:=by
      refine qc7 hp e _ _ (subF_lt hp) (Nat.pow_pos hp) (fun i hi=>?_)
      refine (subF_dg hp hi).trans ?_
      have:=dg_lt (p:=p) (a:=x) (i:=i) hp
      rw [show dg p x i+p-dg p x i=p by omega,Nat.mod_self]
      exact dg_zero.symm
    omega
  have h00:addF p e 0 0=0:=qsm hp (Nat.pow_pos hp)
  have hlt:∀ a b,qfh p e m a b=0∨qfh p e m a b<p ^ e:=fun a b=>by
    right
    have h:=rmul_bil F.toFd (a3:=a) (b3:=b) (a1:=a) (b1:=b) (a2:=0) (b2:=0) (fun i j hi hj=>⟨0,by simp [dg_zero]⟩)
    rw [h];exact qf6 hp
  have hr0:∀ b,qfh p e m 0 b=0:=fun b=>by
    have h:=hadd1 0 0 b
    rw [h00] at h
    rcases hlt 0 b with h1|h1
    · exact h1
    · exact hz _ h.symm h1
  have hr1:∀ a,qfh p e m a 0=0:=fun a=>by
    have h:=hadd2 a 0 0
    rw [h00] at h
    rcases hlt a 0 with h1|h1
    · exact h1
    · exact hz _ h.symm h1
  refine F.gen (fun a=>qfh p e m a b=mulF p e m a b) ?_ (fun i hi=>?_) (fun x y hx hy=>?_) a ha
  · rw [hr0,qgt F.toFd _ _ (.inl rfl)]
  · refine F.gen (fun b=>qfh p e m (p ^ i) b=mulF p e m (p ^ i) b) ?_ (fun j hj=>?_) (fun x y hx hy=>?_) b hb
    · rw [hr1,qgt F.toFd _ _ (.inr rfl)]
    · exact Nat.eq_of_beq_eq_true (List.all_eq_true.1 (List.all_eq_true.1 hr i (List.mem_range.2 hi)) j (List.mem_range.2 hj))
    · rw [hadd2,qd7 F.toFd,hx,hy]
  · rw [hadd1,qgf F.toFd,hx,hy]
theorem rsub_eq {p e a b:Nat} (hp:0<p):addF p e a (negF p e b)=subF p e a b:=by
  have hneg:∀ i,i<e→dg p (negF p e b) i=(p-dg p b i) % p:=by
    intro i hi
    have hl:∀ z∈negL p (digs p b e),z<p:=by
      intro z hz
      simp only [negL,List.mem_map] at hz
      obtain⟨w,_,rfl⟩:=hz
      exact Nat.mod_lt _ hp
    unfold negF
    have h1:=qgr hp (negL p (digs p b e)) hl i
    refine h1.trans ?_
    have l1:=qbw p e b
    have h2:dg p b i=(digs p b e).getD i 0:=(qfb p e b i hi).symm
    rw [h2]
    simp only [negL,List.getD_eq_getElem?_getD,List.getElem?_map]
    rw [List.getElem?_eq_getElem (by omega)]
    rfl
  refine qc7 hp e _ _ (qf6 hp) (subF_lt hp) (fun i hi=>?_)
  refine (qd5 hp hi).trans (Eq.trans ?_ (subF_dg hp hi).symm)
  rw [hneg i hi,Nat.add_mod_mod]
  have:=dg_lt (p:=p) (a:=b) (i:=i) hp
  congr 1;omega
end Go.Sim.Pf

namespace Go.Sim.Pf
open Go Go.Proofs
structure FM (p e:Nat) (m:List Nat) (g:Nat) (E fs:List Nat):Prop extends FT p e m g E where
  rm:rmB p e m=true
theorem neg_eq {p e b:Nat} (hp:0<p):negF p e b=subF p e 0 b:=by
  have h:=rsub_eq (e:=e) (a:=0) (b:=b) hp
  have hl:(negL p (digs p b e)).length=e:=by simp [negL,qbw]
  have hlt:negF p e b<p ^ e:=by
    have:=qnx (p:=p) hp (negL p (digs p b e)) (by
      intro z hz
      simp only [negL,List.mem_map] at hz
      obtain⟨w,_,rfl⟩:=hz
      exact Nat.mod_lt _ hp)
    rwa [hl] at this
  rw [addF_comm hp,qsm hp hlt] at h
  exact h
section
variable {p e b c x:Nat} {m fs:List Nat} {g:Nat} {E:List Nat} {H:AH} {el:TypeId} {op:Option Nat} {r:Bool}
theorem rmulM (F:FM p e m g E fs) (hb:H[b]? = some (.cells (m.map nv) el op r)) {y:Nat} (hx:x<p ^ e) (hy:y<p ^ e):FN Tryz.prog 132 [fldv p e b e c,nv x,nv y] H (fun v H'=>v=nv (mulF p e m x y)∧H'=H):=by
  have hq:=F.q
  have h:=rmul_spec (c:=c) hb F.len F.lt F.p2 F.e1 F.e6 F.q (show x<1000 by omega) (show y<1000 by omega)
  rwa [rmul_eq F.toFT F.rm x y hx hy] at h
theorem inv_uniq (F:FM p e m g E fs) {y:Nat} (hx:x<p ^ e) (h0:x≠0) (hy:y<p ^ e) (h:mulF p e m x y=1):y=pw p e m x (p ^ e-2):=by
  have hI:=F.mul_inv x hx h0
  have hlt:=F.pw_lt x (p ^ e-2)
  generalize pw p e m x (p ^ e-2)=I at *
  have h1:mulF p e m I (mulF p e m x y)=y:=by
    rw [←F.mul_assoc _ _ _ hlt hx hy,F.mul_comm I x hlt hx,hI,F.one_mul y hy]
  rw [h,F.mul_one I hlt] at h1
  exact h1.symm
theorem powZ_inv (F:FM p e m g E fs) (hx:x<p ^ e) (h0:x≠0):powZ p e m x (-1)=(pw p e m x (p ^ e-2),0):=by
  have:=F.q2
  have h1:((-1:Int) % ((p ^ e:Nat)-1:Int)).toNat=p ^ e-2:=by
    rcases Nat.eq_or_lt_of_le this with h|h
    · rw [←h];rfl
    · have:(-1:Int) % ((p ^ e:Nat)-1:Int)=((p ^ e:Nat)-2:Int):=by
        rw [←Int.add_mul_emod_self_left (-1) _ 1]
        rw [Int.emod_eq_of_lt (by omega) (by omega)]
        omega
      omega
  unfold powZ
  rw [if_neg (by omega),if_neg h0,h1,F.powF x _ hx]
theorem rinv_spec (F:FM p e m g E fs) (hb:H[b]? = some (.cells (m.map nv) el op r)) (hx:x<p ^ e) :
    FN Tryz.prog 107 [fldv p e b e c,nv x] H (fun v H'=>v=.tuple [nv (powZ p e m x (-1)).1,nv (powZ p e m x (-1)).2].toArray∧H'=H):=by
  have hb2:=fun (Y:AH)=>qgh (L:=Y) hb
  have hq:=F.q
  refine FN.gc0 (FN.of_compZ qbt xf107_ok (Nat.le_of_ble_eq_true rfl) ?_)
  by_cases h0:x=0
  · subst h0
    simp (disch:=(first|omega|(simp only [List.length_map];omega)|(simp only [qbj]<;>omega)|(simp only [qbg];done)|rfl)) only [↓qbp,zC,zD,zF,zG,zH,Nat.reduceEqDiff,Nat.reduceLT,Nat.reduceLeDiff,↓reduceIte,xf107]
    simp [ground,scal,powZ]
  · rw [powZ_inv F hx h0]
    have hI:=F.mul_inv x hx h0
    have hu:=fun y hy=>inv_uniq F (x:=x) (y:=y) hx h0 hy
    have hlt:=F.pw_lt x (p ^ e-2)
    have hne:=F.pw_ne x (p ^ e-2) hx h0
    generalize pw p e m x (p ^ e-2)=I at *
    simp (disch:=(first|omega|(simp only [List.length_map];omega)|(simp only [qbj]<;>omega)|(simp only [qbg];done)|rfl)) only [↓qbp,zC,zD,zF,zG,zH,Nat.reduceEqDiff,Nat.reduceLT,Nat.reduceLeDiff,↓reduceIte,xf107,h0]
    refine LZ.nat (I-1) (fun k s H'=>s.env 1=nv x∧s.env 2=.pointer (some ⟨H.length,0,none⟩)∧s.env 6=nv (k+1)∧s.ds=[]∧H'=H++[.cells [nv p,nv e,.slice (some ⟨b,0,none⟩) e c] 76 none false]) ?_ ?_ ?_
    · simp (disch:=(first|omega|(simp only [List.length_map];omega)|(simp only [qbj]<;>omega)|(simp only [qbg];done)|rfl)) only [↓qbp,zC,zD,zF,zG,zH,Nat.reduceEqDiff,Nat.reduceLT,Nat.reduceLeDiff,↓reduceIte]
    · rintro k s H1 hk ⟨e1,e2,e6,eds,rfl⟩
      have hk1:k+1<p ^ e:=by omega
      have hn1:¬mulF p e m x (k+1)=1:=fun h=>by have:=hu (k+1) hk1 h;omega
      simp (disch:=(first|omega|(simp only [List.length_map];omega)|(simp only [qbj]<;>omega)|(simp only [qbg];done)|rfl)) only [↓qbp,zC,zD,zF,zG,zH,Nat.reduceEqDiff,Nat.reduceLT,Nat.reduceLeDiff,↓reduceIte,e1,e2,e6,eds]
      refine FZ.use (qmx F.p2 F.q) ?_
      simp (disch:=(first|omega|(simp only [List.length_map];omega)|(simp only [qbj]<;>omega)|(simp only [qbg];done)|rfl)) only [↓qbp,zC,zD,zF,zG,zH,Nat.reduceEqDiff,Nat.reduceLT,Nat.reduceLeDiff,↓reduceIte,e1,e2,e6,eds,hk1]
      refine FZ.use (rmulM F (hb2 _) hx hk1) ?_
      simp (disch:=(first|omega|(simp only [List.length_map];omega)|(simp only [qbj]<;>omega)|(simp only [qbg];done)|rfl)) only [↓qbp,zC,zD,zF,zG,zH,Nat.reduceEqDiff,Nat.reduceLT,Nat.reduceLeDiff,↓reduceIte,e1,e2,e6,eds,hn1]
    · rintro s H1 ⟨e1,e2,e6,eds,rfl⟩
      have hI1:I-1+1=I:=by omega
      rw [hI1] at e6
      simp (disch:=(first|omega|(simp only [List.length_map];omega)|(simp only [qbj]<;>omega)|(simp only [qbg];done)|rfl)) only [↓qbp,zC,zD,zF,zG,zH,Nat.reduceEqDiff,Nat.reduceLT,Nat.reduceLeDiff,↓reduceIte,e1,e2,e6,eds]
      refine FZ.use (qmx F.p2 F.q) ?_
      simp (disch:=(first|omega|(simp only [List.length_map];omega)|(simp only [qbj]<;>omega)|(simp only [qbg];done)|rfl)) only [↓qbp,zC,zD,zF,zG,zH,Nat.reduceEqDiff,Nat.reduceLT,Nat.reduceLeDiff,↓reduceIte,e1,e2,e6,eds,hlt]
      refine FZ.use (rmulM F (hb2 _) hx hlt) ?_
      simp (disch:=(first|omega|(simp only [List.length_map];omega)|(simp only [qbj]<;>omega)|(simp only [qbg];done)|rfl)) only [↓qbp,zC,zD,zF,zG,zH,Nat.reduceEqDiff,Nat.reduceLT,Nat.reduceLeDiff,↓reduceIte,e1,e2,e6,eds,hI,xf107]
      simp [ground,scal]
theorem rnegM (hp:2≤p) (he:1≤e) (he6:e≤6) (hq:p ^ e≤64) {n:Nat} (hx:x<1000):FN Tryz.prog 81 [fldv p e b n c,nv x] H (fun v H'=>v=nv (subF p e 0 x)∧H'=H):=by
  have h:=rneg_spec (b:=b) (n:=n) (c:=c) (H:=H) hp he he6 hq hx
  rwa [neg_eq (by omega)] at h
end
end Go.Sim.Pf

namespace Go.Sim
open Go Go.Proofs
structure FQ (α:Type) [Fl α] (cd:α→Nat) (p e q:Nat) (blk:AB):Prop where
  ok:∀ b,FOK α cd p e b e q blk
  make:∀ H:AH,FN Tryz.prog 111 [nv q] H (fun r H'=>r=.tuple [fldv p e H.length e e,nv 0].toArray∧H'=H++[blk])
  rmake:∀ H:AH,FN Tryz.prog 109 [nv q] H (fun r H'=>r=.tuple [fldv p e H.length e e,nv 0].toArray∧H'=H++[blk])
end Go.Sim
namespace Go.Sim.Pf
open Go Go.Proofs
@[reducible] def flOf {p e g:Nat} {m E:List Nat} (F:FT p e m g E):Fl {n:Nat // n<p ^ e} where
  zero:=⟨0,by have:=F.q2;omega⟩
  one:=⟨1,by have:=F.q2;omega⟩
  add a b:=⟨addF p e a.1 b.1,qf6 F.hp⟩
  mul a b:=⟨mulF p e m a.1 b.1,F.mul_lt _ _⟩
  neg a:=⟨subF p e 0 a.1,subF_lt F.hp⟩
  inv a:=⟨pw p e m a.1 (p ^ e-2),F.pw_lt _ _⟩
  add_comm a b:=Subtype.ext (addF_comm F.hp _ _)
  add_assoc a b c:=Subtype.ext (addF_assoc F.hp _ _ _)
  add_zero a:=Subtype.ext (qsm F.hp a.2)
  add_neg a:=Subtype.ext (add_negF F.hp)
  mul_comm a b:=Subtype.ext (F.mul_comm _ _ a.2 b.2)
  mul_assoc a b c:=Subtype.ext (F.mul_assoc _ _ _ a.2 b.2 c.2)
  mul_one a:=Subtype.ext (F.mul_one _ a.2)
  mul_add a b c:=Subtype.ext (qd7 F.toFd _ _ _)
  mul_inv a h:=Subtype.ext (F.mul_inv _ a.2 (fun h0=>h (Subtype.ext h0)))
  one_ne:=fun h=>by have:=congrArg Subtype.val h;simp at this
theorem fokOf {p e g:Nat} {m E:List Nat} (F:FT p e m g E) (hr:rmB p e m=true) (b:Nat) :
    @FOK {n:Nat // n<p ^ e} (flOf F) (fun x=>x.1) p e b e (p ^ e) (.cells (m.map nv) 3 (some 1) false):=by
  letI:=flOf F
  have hq:=F.q
  have hp64:p≤64:=by have:=qc9 (k:=1) F.p2 F.e1 F.q;simpa using this
  have he6:=F.e6
  have lt:∀ x:{n:Nat // n<p ^ e},x.1<1000:=fun x=>by have:=x.2;omega
  have hsub:∀ x y:{n:Nat // n<p ^ e},subF p e x.1 y.1=(Fl.add x (Fl.neg y)).1:=fun x y=>by
    show _=addF p e x.1 (subF p e 0 y.1)
    rw [←neg_eq F.hp,rsub_eq F.hp]
  have FMm:FM p e m g E []:={ toFT:=F,rm:=hr }
  constructor
  · intro x y h;exact Subtype.ext h
  · intro x;exact x.2
  · intro n hn;exact⟨⟨n,hn⟩,rfl⟩
  · rfl
  · rfl
  · exact F.q
  · exact F.q2
  · intro H x y hb;exact qk6 hb F.len F.lt F.p2 F.e1 F.e6 F.q (lt x) (lt y)
  · intro H x y hb;exact add_spec F.p2 F.e1 F.e6 rfl F.q (lt x) (lt y)
  · intro H x y hb;rw [←hsub];exact sub_spec F.p2 F.e1 F.e6 rfl F.q (lt x) (lt y)
  · intro H x hb;exact neg_spec F.p2 F.e1 F.e6 rfl F.q (lt x)
  · intro H x hb h0
    have h0':x.1≠0:=fun h=>h0 (Subtype.ext h)
    have h:=inv_spec (c:=e) hb F.len F.lt F.p2 F.e1 F.e6 F.q (lt x)
    rw [powZ_inv FMm x.2 h0'] at h
    exact h
  · intro H hb;exact size_spec F.p2 F.e1 F.e6 rfl F.q
  · intro H x y hb;exact rmulM FMm hb x.2 y.2
  · intro H x y hb;exact radd_spec F.p2 F.e1 F.e6 F.q (lt x) (lt y)
  · intro H x hb;exact rnegM F.p2 F.e1 F.e6 F.q (lt x)
  · intro H x hb h0
    have h0':x.1≠0:=fun h=>h0 (Subtype.ext h)
    have h:=rinv_spec (c:=e) FMm hb x.2
    rw [powZ_inv FMm x.2 h0'] at h
    exact h
  · intro H hb;exact qmx F.p2 F.q
theorem fq_of {p e g q:Nat} {m E:List Nat} (F:FT p e m g E) (hq:q=p ^ e) (hr:rmB p e m=true) (h1:qnj Tryz.prog 111 [nv q] (.fld p e e e 0 (.cells (m.map nv) 3 (some 1) false))) (h2:qnj Tryz.prog 109 [nv q] (.fld p e e e 0 (.cells (m.map nv) 3 (some 1) false))) :
    @FQ {n:Nat // n<p ^ e} (flOf F) (fun x=>x.1) p e q (.cells (m.map nv) 3 (some 1) false):=by
  letI:=flOf F
  subst hq
  exact⟨fun b=>fokOf F hr b,h1,h2⟩
def ordM (j:Nat):Nat:=[2,3,4,5,7,8].getD j 0
theorem fq_at:∀ j,j<6→∃ (α:Type) (i1:Fl α) (_:DecidableEq α) (cd:α→Nat) (p e:Nat) (blk:AB),FQ α cd p e (ordM j) blk
  | 0,_=>⟨_,flOf ft2,inferInstance,_,_,_,_,fq_of ft2 rfl (by decide +kernel) (qd0 _ (List.mem_of_getElem? (i:=2) rfl)) (qd9 _ (List.mem_of_getElem? (i:=2) rfl))⟩
  | 1,_=>⟨_,flOf ft3,inferInstance,_,_,_,_,fq_of ft3 rfl (by decide +kernel) (qd0 _ (List.mem_of_getElem? (i:=3) rfl)) (qd9 _ (List.mem_of_getElem? (i:=3) rfl))⟩
  | 2,_=>⟨_,flOf ft4,inferInstance,_,_,_,_,fq_of ft4 rfl (by decide +kernel) (qd0 _ (List.mem_of_getElem? (i:=4) rfl)) (qd9 _ (List.mem_of_getElem? (i:=4) rfl))⟩
  | 3,_=>⟨_,flOf ft5,inferInstance,_,_,_,_,fq_of ft5 rfl (by decide +kernel) (qd0 _ (List.mem_of_getElem? (i:=5) rfl)) (qd9 _ (List.mem_of_getElem? (i:=5) rfl))⟩
  | 4,_=>⟨_,flOf ft7,inferInstance,_,_,_,_,fq_of ft7 rfl (by decide +kernel) (qd0 _ (List.mem_of_getElem? (i:=7) rfl)) (qd9 _ (List.mem_of_getElem? (i:=7) rfl))⟩
  | 5,_=>⟨_,flOf ft8,inferInstance,_,_,_,_,fq_of ft8 rfl (by decide +kernel) (qd0 _ (List.mem_of_getElem? (i:=8) rfl)) (qd9 _ (List.mem_of_getElem? (i:=8) rfl))⟩
  | n+6,h=>absurd h (by omega)
end Go.Sim.Pf

namespace Go.Sim
open Go Go.Proofs
theorem qbs {H:AH} {x y z c0 c1 c2:Value} {e:TypeId} {op:Option Nat} {bl:Nat} (h1:one x=true) (h2:one y=true) (h3:one z=true):stB 3 H (some (.cells [c0,c1,c2] e op false)) bl 0 (.agg #[x,y,z])=some (undef,H.set bl (.cells [x,y,z] e op false)):=
  stB_all (c':=[x,y,z]) rfl rfl (by simp [h1,h2,h3])
theorem qcj {H:AH} {x y z u c0 c1 c2 c3:Value} {e:TypeId} {op:Option Nat} {bl:Nat} (h1:one x=true) (h2:one y=true) (h3:one z=true) (h4:one u=true):stB 4 H (some (.cells [c0,c1,c2,c3] e op false)) bl 0 (.agg #[x,y,z,u])=some (undef,H.set bl (.cells [x,y,z,u] e op false)):=
  stB_all (c':=[x,y,z,u]) rfl rfl (by simp [h1,h2,h3,h4])
section
variable {α:Type} [Fl α] [DecidableEq α] {cd:α→Nat} {p e b c q:Nat} {blk:AB} {H:AH}
abbrev codv (q n:Nat) (v:Value):Value:=.agg [nv q,nv n,v].toArray
abbrev gotv (q n:Nat) (v:Value) (er:Nat):Value:=.agg [nv q,nv n,v,nv er].toArray
theorem rtimes_c (F:FOK α cd p e b c q blk) {v:Value} {xs:List α} {a:α} (hb:H[b]? = some blk) (hv:Row H v (evs cd xs)) (hx:xs.length≤1000) :
    FN Tryz.prog 74 [fldv p e b e c,nv (cd a),v] H (fun r H'=>Pre H H'∧Acc H H' r (evs cd (xs.map (Fl.mul a))) 3):=by
  refine g74_of ?_
  unfold g74
  simp (disch:=omega) only [zA,zB,zC,zD,zF,zG,zH,↓reduceIte]
  refine loopV2.nat xs.length (fun k out i H'=>i=nv k∧Pre (H++[fbx p e b c]) H'∧Acc (H++[fbx p e b c]) H' out (evs cd ((xs.map (Fl.mul a)).take k)) 3) ?_ ?_ ?_
  · exact⟨rfl,Pre.snoc _ _ _,Acc.start1 rfl⟩
  · rintro k out i H3 hk ⟨rfl,hp,ho⟩ J hJ
    have hbx:=hp.get (b:=H.length) (x:=fbx p e b c) (by simp)
    have hp0:=(Pre.new H _).trans hp
    have hb3:=hp0.get hb
    obtain⟨vl,vi,vd,_⟩:=(hv.pre hp0).all Fl.zero
    simp (disch:=omega) only [zA,zB,zC,zD,zF,zG,zH,↓reduceIte,hbx,vl,vi,vd,hk]
    refine FZ.use (F.rmul H3 _ _ hb3) ?_
    have hlen:(evs cd ((xs.map (Fl.mul a)).take k)).length≤1000:=by simp;omega
    obtain⟨out',H5,e1,ho',hp',_⟩:=ho.app1 (by_:=8) hp.len (u:=nv (cd (Fl.mul a (xs.getD k Fl.zero)))) rfl (by omega) (by omega) (e2:=3)
    simp (disch:=(first|omega|(simp only [qbj]<;>omega)|(simp only [qbg];done)|rfl)) only [zA,zB,zC,zD,zF,zG,zH,Nat.reduceEqDiff,Nat.reduceLT,Nat.reduceLeDiff,↓reduceIte,e1,hk]
    refine hJ _ _ _ ⟨rfl,hp' hp,?_⟩
    rw [List.take_succ_eq_append_getElem (by simpa using hk)]
    simpa [List.getD_eq_getElem?_getD,List.getElem?_eq_getElem hk] using ho'
  · rintro out i H3 ⟨rfl,hp,ho⟩ J
    have hp0:=(Pre.new H _).trans hp
    obtain⟨vl,vi,vd,_⟩:=(hv.pre hp0).all Fl.zero
    simp (disch:=omega) only [zA,zB,zC,zD,zF,zG,zH,↓reduceIte,vl]
    rw [List.take_of_length_le (by simp)] at ho
    exact⟨hp0,ho.mono (by simp)⟩
def lplus (xs ys:List α):List α:=List.zipWith Fl.add xs ys
theorem rplus_c (F:FOK α cd p e b c q blk) {v w:Value} {xs ys:List α} (hb:H[b]? = some blk) (hv:Row H v (evs cd xs)) (hw:Row H w (evs cd ys)) (hl:xs.length=ys.length) (hx:xs.length≤1000) :
    FN Tryz.prog 108 [fldv p e b e c,v,w] H (fun r H'=>Pre H H'∧Acc H H' r (evs cd (lplus xs ys)) 3):=by
  refine g108_of ?_
  unfold g108
  simp (disch:=omega) only [zA,zB,zC,zD,zF,zG,zH,↓reduceIte]
  refine loopV2.nat xs.length (fun k out i H'=>i=nv k∧Pre (H++[fbx p e b c]) H'∧Acc (H++[fbx p e b c]) H' out (evs cd ((lplus xs ys).take k)) 3) ?_ ?_ ?_
  · exact⟨rfl,Pre.snoc _ _ _,Acc.start1 rfl⟩
  · rintro k out i H3 hk ⟨rfl,hp,ho⟩ J hJ
    have hbx:=hp.get (b:=H.length) (x:=fbx p e b c) (by simp)
    have hp0:=(Pre.new H _).trans hp
    have hb3:=hp0.get hb
    have hky:k<ys.length:=by omega
    obtain⟨vl,vi,vd,_⟩:=(hv.pre hp0).all Fl.zero
    obtain⟨wl,wi,wd,_⟩:=(hw.pre hp0).all Fl.zero
    simp (disch:=omega) only [zA,zB,zC,zD,zF,zG,zH,↓reduceIte,hbx,vl,vi,vd,wl,wi,wd,hk,hky]
    refine FZ.use (F.radd H3 _ _ hb3) ?_
    have hlen:(evs cd ((lplus xs ys).take k)).length≤1000:=by simp;omega
    obtain⟨out',H5,e1,ho',hp',_⟩:=ho.app1 (by_:=8) hp.len (u:=nv (cd (Fl.add (xs.getD k Fl.zero) (ys.getD k Fl.zero)))) rfl (by omega) (by omega) (e2:=3)
    simp (disch:=(first|omega|(simp only [qbj]<;>omega)|(simp only [qbg];done)|rfl)) only [zA,zB,zC,zD,zF,zG,zH,Nat.reduceEqDiff,Nat.reduceLT,Nat.reduceLeDiff,↓reduceIte,e1,hk]
    refine hJ _ _ _ ⟨rfl,hp' hp,?_⟩
    rw [List.take_succ_eq_append_getElem (by simp [lplus];omega)]
    simpa [lplus,List.getD_eq_getElem?_getD,List.getElem?_eq_getElem hk,List.getElem?_eq_getElem hky] using ho'
  · rintro out i H3 ⟨rfl,hp,ho⟩ J
    have hp0:=(Pre.new H _).trans hp
    obtain⟨vl,vi,vd,_⟩:=(hv.pre hp0).all Fl.zero
    simp (disch:=omega) only [zA,zB,zC,zD,zF,zG,zH,↓reduceIte,vl]
    rw [List.take_of_length_le (by simp [lplus];omega)] at ho
    exact⟨hp0,ho.mono (by simp)⟩
theorem ints_c {H:AH} {v w:Value} {xs ys:List Nat} (hv:Row H v (xs.map nv)) (hw:Row H w (ys.map nv)) (hx:xs.length≤100000) :
    FN Tryz.prog 145 [v,w] H (fun r H'=>r=.bool (decide (xs=ys))∧H'=H):=by
  refine g145_of ?_
  unfold g145
  obtain⟨vl,vi,vd,_⟩:=hv.all 0
  obtain⟨wl,wi,wd,_⟩:=hw.all 0
  by_cases hl:xs.length=ys.length
  · simp (disch:=omega) only [zA,zB,zC,zD,zF,zG,zH,↓reduceIte,vl,wl,hl]
    refine loopV1.ind (fun m i H'=>∃ k,i=nv k∧H'=H∧k+m=xs.length∧xs.take k=ys.take k) xs.length ⟨0,rfl,rfl,by omega,by simp⟩ ?_
    rintro m i _ ⟨k,rfl,rfl,hm,ht⟩ J hJ
    by_cases hk:k<ys.length
    · by_cases he:xs.getD k 0=ys.getD k 0
      · simp (disch:=omega) only [zA,zB,zC,zD,zF,zG,zH,↓reduceIte,vl,vi,vd,wl,wi,wd,hk,hl,he]
        exact hJ _ _ ⟨m-1,by omega,k+1,rfl,rfl,by omega,qnp 0 (by omega) hk ht he⟩
      · simp (disch:=omega) only [zA,zB,zC,zD,zF,zG,zH,↓reduceIte,vl,vi,vd,wl,wi,wd,hk,hl,he]
        rw [decide_eq_false]
        rintro rfl;exact he rfl
    · simp (disch:=omega) only [zA,zB,zC,zD,zF,zG,zH,↓reduceIte,vl,vi,vd,wl,wi,wd,hk,hl]
      rw [List.take_of_length_le (by omega),List.take_of_length_le (by omega)] at ht
      rw [decide_eq_true ht]
  · simp (disch:=omega) only [zA,zB,zC,zD,zF,zG,zH,↓reduceIte,vl,wl,hl]
    rw [decide_eq_false]
    rintro rfl;exact hl rfl
theorem rows_c {H:AH} {v w:Value} {xss yss:List (List Nat)} (hv:RowR H v (xss.map fun l=>l.map nv)) (hw:RowR H w (yss.map fun l=>l.map nv)) (hx:xss.length≤100000) (hx2:∀ l∈xss,l.length≤100000) :
    FN Tryz.prog 91 [v,w] H (fun r H'=>r=.bool (decide (xss=yss))∧H'=H):=by
  refine g91_of ?_
  unfold g91
  obtain⟨vs,hvs,hvl,hvr⟩:=hv.openN
  obtain⟨ws,hws,hwl,hwr⟩:=hw.openN
  obtain⟨vl,vi,vd,_⟩:=hvs.allV
  obtain⟨wl,wi,wd,_⟩:=hws.allV
  by_cases hl:xss.length=yss.length
  · simp (disch:=omega) only [zA,zB,zC,zD,zF,zG,zH,↓reduceIte,vl,wl,hvl,hwl,hl]
    refine loopV1.ind (fun m i H'=>∃ k,i=nv k∧H'=H∧k+m=xss.length∧xss.take k=yss.take k) xss.length ⟨0,rfl,rfl,by omega,by simp⟩ ?_
    rintro m i _ ⟨k,rfl,rfl,hm,ht⟩ J hJ
    by_cases hk:k<yss.length
    · have hk1:k<vs.length:=by omega
      have hk2:k<ws.length:=by omega
      have hk3:k<xss.length:=by omega
      simp (disch:=omega) only [zA,zB,zC,zD,zF,zG,zH,↓reduceIte,vl,vi,vd,wl,wi,wd,hk1,hk2]
      have hlen:(xss.getD k []).length≤100000:=by
        rw [List.getD_eq_getElem?_getD,List.getElem?_eq_getElem hk3];exact hx2 _ (List.getElem_mem hk3)
      refine FZ.use (ints_c (hvr k hk3) (hwr k hk) hlen) ?_
      by_cases he:xss.getD k []=yss.getD k []
      · simp (disch:=omega) only [zA,zB,zC,zD,zF,zG,zH,↓reduceIte,he]
        exact hJ _ _ ⟨m-1,by omega,k+1,rfl,rfl,by omega,qnp [] hk3 hk ht he⟩
      · simp (disch:=omega) only [zA,zB,zC,zD,zF,zG,zH,↓reduceIte,he]
        rw [decide_eq_false]
        rintro rfl;exact he rfl
    · have hk1:¬k<vs.length:=by omega
      simp (disch:=omega) only [zA,zB,zC,zD,zF,zG,zH,↓reduceIte,vl,hk1]
      rw [List.take_of_length_le (by omega),List.take_of_length_le (by omega)] at ht
      rw [decide_eq_true ht]
  · have hl1:¬vs.length=ws.length:=by omega
    simp (disch:=omega) only [zA,zB,zC,zD,zF,zG,zH,↓reduceIte,vl,wl,hl1]
    rw [decide_eq_false]
    rintro rfl;exact hl rfl
theorem evr_nv (xss:List (List α)):evr cd xss=(xss.map fun l=>l.map cd).map fun l=>l.map nv:=by simp [evs,Function.comp_def]
theorem evs_nv (xs:List α):evs cd xs=(xs.map cd).map nv:=by simp [evs,Function.comp_def]
end
end Go.Sim

namespace Go.Sim
open Go Go.Proofs
section
variable {α:Type} [Fl α] [DecidableEq α] {cd:α→Nat} {p e b c q:Nat} {blk:AB} {H:AH}
structure Spn (cd:α→Nat) (n0 sb:Nat) (vs:List Value) (op:Option Nat) (H:AH) (M:List (List α)):Prop where
  blk:H[sb]? = some (.cells vs 31 op false)
  rws:Rws H vs (evr cd M)
  low:∀ x∈vs,Lw.Lo n0 x
  sn:n0≤sb
theorem Spn.len {n0 sb:Nat} {vs:List Value} {op:Option Nat} {M:List (List α)} (h:Spn cd n0 sb vs op H M):vs.length=M.length:=by have:=h.rws.1;simpa using this
theorem Spn.row {n0 sb:Nat} {vs:List Value} {op:Option Nat} {M:List (List α)} (h:Spn cd n0 sb vs op H M) {k:Nat} (hk:k<M.length):Row H (vs.getD k undef) (evs cd (M.getD k [])):=by
  have:=h.rws.2 k (by simpa using hk)
  rwa [show ([]:List Value)=evs cd [] from rfl,qds] at this
theorem Spn.spine {n0 sb:Nat} {vs:List Value} {op:Option Nat} {M:List (List α)} (h:Spn cd n0 sb vs op H M) {l m:Nat} (hl:l=M.length) (hm:l≤m):Row H (.slice (some ⟨sb,0,none⟩) l m) vs:=Row.of h.blk (by rw [h.len,hl]) hm
theorem Spn.pre {n0 sb:Nat} {vs:List Value} {op:Option Nat} {M:List (List α)} (h:Spn cd n0 sb vs op H M) {H':AH} (hp:Pre H H'):Spn cd n0 sb vs op H' M:=⟨hp.get h.blk,h.rws.pre hp,h.low,h.sn⟩
theorem Spn.set {n0 sb:Nat} {vs:List Value} {op:Option Nat} {M:List (List α)} (h:Spn cd n0 sb vs op H M) {k:Nat} (hk:k<M.length) {w:Value} {xs:List α} (hw:Row H w (evs cd xs)) (hlo:Lw.Lo n0 w) :
    Spn cd n0 sb (vs.set k w) op (H.set sb (.cells (vs.set k w) 31 op false)) (M.set k xs):=by
  have hlt:=qbx h.blk
  have hl:=h.len
  have hkeep:∀ r cs,Row H r cs→cs.all qg5=true→Row (H.set sb (.cells (vs.set k w) 31 op false)) r cs:=fun r cs hr hc=>hr.keep hc h.blk h.rws.isSl fun b' _ hne=>List.getElem?_set_ne (Ne.symm hne)
  refine⟨List.getElem?_set_self hlt,⟨by simp [hl],fun j hj=>?_⟩,fun x hx=>?_,h.sn⟩
  · simp only [List.length_map,List.length_set] at hj
    rw [show ([]:List Value)=evs cd [] from rfl,qds,getD_set (by omega),getD_set hk]
    by_cases hjk:j=k
    · rw [if_pos hjk,if_pos hjk];exact hkeep _ _ hw (qb3 _)
    · rw [if_neg hjk,if_neg hjk];exact hkeep _ _ (h.row hj) (qb3 _)
  · rcases List.mem_or_eq_of_mem_set hx with hx|rfl
    · exact h.low x hx
    · exact hlo
theorem Spn.keep {n0 sb:Nat} {vs:List Value} {op:Option Nat} {M:List (List α)} (h:Spn cd n0 sb vs op H M) {r:Value} {xs:List α} (hr:Row H r (evs cd xs)) {y:AB}:Row (H.set sb y) r (evs cd xs):=hr.keep (qb3 _) h.blk h.rws.isSl fun b' _ hne=>List.getElem?_set_ne (Ne.symm hne)
theorem Spn.ldB {n0 sb:Nat} {vs:List Value} {op:Option Nat} {M:List (List α)} (h:Spn cd n0 sb vs op H M) {k:Nat} (hk:k<vs.length):qdq none H[sb]? k=some (vs.getD k undef):=by
  rw [h.blk]
  simp [qdq,qdw,List.getD_eq_getElem?_getD,List.getElem?_eq_getElem hk]
theorem Spn.at_ {n0 sb:Nat} {vs:List Value} {op:Option Nat} {M:List (List α)} (h:Spn cd n0 sb vs op H M) {k:Nat} (hk:k<M.length):Lw.Lo n0 (vs.getD k undef):=h.low _ (getD_mem (by rw [h.len];exact hk))
theorem lsub_plus {xs ys:List α} {a:α}:lplus xs (ys.map (Fl.mul (Fl.neg a)))=lsub xs a ys:=by
  unfold lplus lsub
  rw [List.zipWith_map_right]
  congr 1
  funext x y
  have:Fl.mul (Fl.neg a) y=Fl.neg (Fl.mul a y):=by
    refine Fl.add_left_cancel (a:=Fl.mul a y) ?_
    rw [Fl.add_neg,←Fl.add_mul,Fl.add_neg,Fl.zero_mul]
  rw [this]
theorem RedTo.full {n col:Nat} {M:List (List α)} {P:List Nat} (h:RedTo n col M P) (hc:col≤n) (hl:P.length=M.length∨col=n):RedTo n n M P:=by
  rcases hl with hl|rfl
  · exact⟨h.len,h.width,fun i hi=>by have:=h.lt i hi;omega,h.inc,h.one,h.alone,h.lead,fun k j hk hm=>by omega⟩
  · exact h
theorem qk4 (F:FOK α cd p e b c q blk) {v:Value} {n:Nat} {rows:List (List α)} (hb:H[b]? = some blk) (hv:RowR H v (evr cd rows)) (hl:∀ x∈rows,x.length=n) (hR:rows.length≤400) (hn:n≤1000) (hn0:0<n) :
    FN Tryz.prog 61 [fldv p e b e c,nv n,v] H (fun r H'=>Pre H H'∧Lw.RowLo H.length H' r (evr cd (qbk rows))):=by
  refine g61_of ?_
  unfold g61
  obtain⟨vs,hvs,hvl,hvr⟩:=hv.open
  simp (disch:=omega) only [zA,zB,zC,zD,zF,zG,zH,↓reduceIte]
  refine loopV2.nat rows.length (fun k out i H'=>i=nv k∧Pre (H++[fbx p e b c]) H'∧((∃ l,out=.slice (some ⟨l,0,none⟩) k k)∧Lw.AccLo (H++[fbx p e b c]) H' out (evr cd (rows.take k)) 31)) ⟨rfl,Pre.snoc _ _ _,⟨_,rfl⟩,?_⟩ ?_ ?_
  · refine⟨[],?_,⟨rfl,by simp⟩,by simp,by simp⟩
    have:=Own.new (H0:=H++[fbx p e b c]) (H:=H++[fbx p e b c]) (Nat.le_refl _) (cs:=[]) (e:=31) rfl (Y:=[])
    simpa using this.acc
  · rintro k out i H3 hk ⟨rfl,hp,⟨sb,rfl⟩,ho⟩ J hJ
    have hp0:=(Pre.new H _).trans hp
    obtain⟨vl,vi,vd,vd2⟩:=(hvs.pre hp0).allV
    have hk':k<vs.length:=by omega
    have hwk:=qb5 hl hk
    have hne:evs cd (rows.getD k [])≠[]:=fun h=>by have h2:=congrArg List.length h;rw [List.length_map,hwk] at h2;simp at h2;omega
    have hcl:(evs cd (rows.getD k [])).length=n:=by rw [List.length_map,hwk]
    have hrow:=(hvr k hk).pre hp0
    obtain⟨w,H5,e1,ha,hp5,hl5⟩:=Acc.appR (H0:=H3) (H:=H3++[.cells [] 3 none false]) (by_:=8) (by simp) (Own.new (Nat.le_refl _) (cs:=[]) rfl (Y:=[])).acc ((hrow.pre (Pre.new H3 _)).x hne) (by simp [one]) (by rw [hcl];simp;omega) (by rw [hcl];simp;omega)
    simp only [List.length_nil,List.nil_append] at e1 ha
    have hp5':=hp5 (Pre.new _ _)
    have hp05:=hp.trans hp5'
    have hlo:Lw.Lo (H++[fbx p e b c]).length w:=fun a l c h=>Nat.le_trans hp.len (Lw.acc_lo ha _ _ _ h)
    obtain⟨out',H7,e2,ho',hp7,hl7⟩:=(ho.pre hp5').app1 (by_:=24) hp05.len ha.row hlo (qb3 _) (by simp;omega) (by simp;omega) (e2:=31)
    simp (disch:=(first|omega|(simp only [qbj]<;>omega)|(simp only [qbg];done)|rfl)) only [zA,zB,zC,zD,zF,zG,zH,Nat.reduceEqDiff,Nat.reduceLT,Nat.reduceLeDiff,↓reduceIte,vl,vi,vd,vd2,hk',e1,ha.row.fill,e2]
    refine hJ _ _ _ ⟨rfl,hp7 hp05,?_,?_⟩
    · obtain⟨ws,h1,h2,_⟩:=ho'
      have hwl:=h2.1
      simp at hwl
      rcases h1.own (by intro h;rw [h] at hwl;simp at hwl) with ⟨bb,_,rfl,_⟩
      exact⟨bb,by rw [hwl];simp;omega⟩
    · have e:evr cd (rows.take (k+1))=evr cd (rows.take k)++[evs cd (rows.getD k [])]:=by
        show List.map _ _=List.map _ _++_
        rw [List.take_succ_eq_append_getElem hk,List.map_append,qcb hk];rfl
      rw [e];exact ho'
  · rintro out i H3 ⟨rfl,hp,⟨sb,rfl⟩,ho⟩ J
    obtain⟨vl,_,_,_⟩:=(hvs.pre ((Pre.new H _).trans hp)).allV
    rw [List.take_of_length_le (Nat.le_refl _)] at ho
    obtain⟨ws,ha,hr,_,hlow⟩:=ho
    have hs0:∃ op,Spn cd (H++[fbx p e b c]).length sb ws op H3 rows:=by
      rcases ha with ⟨_,h⟩|⟨bb,hb1,h,op,_,h2⟩
      · cases h
      · simp only [Value.slice.injEq,Option.some.injEq,Addr.mk.injEq] at h
        obtain⟨⟨rfl,_⟩,_⟩:=h
        exact⟨op,h2,hr,hlow,hb1⟩
    obtain⟨op,hs⟩:=hs0
    simp (disch:=omega) only [zA,zB,zC,zD,zF,zG,zH,↓reduceIte,vl,hvl]
    have hsb:=qbx hs.blk
    have hbx:H3[H.length]? = some (fbx p e b c):=hp.get (by simp)
    refine loopV2.ind (fun m r c' H'=>∃ col ws M P op,c'=nv col∧r=nv P.length∧col+m=n∧Pre (H++[fbx p e b c]) H'∧Spn cd (H++[fbx p e b c]).length sb ws op H' M∧RedTo n col M P∧M.length=rows.length∧(∀ u,LSpan M u↔LSpan rows u)) n
      ⟨0,ws,rows,[],op,rfl,rfl,by omega,hp,hs,RedTo.start hl,rfl,fun _=>Iff.rfl⟩ ?_
    clear hs hsb hbx hr hlow ha hp
    rintro m r c' H4 ⟨col,ws,M,P,op,rfl,rfl,hm,hp,hs,hr,hMl,hsp⟩ J hJ
    have hbx:H4[H.length]? = some (fbx p e b c):=hp.get (by simp)
    have hp0:=(Pre.new H _).trans hp
    have hb4:=hp0.get hb
    have hPl:=hr.len
    have hspine:=hs.spine (l:=rows.length) (m:=rows.length) hMl.symm (Nat.le_refl _)
    have hwl:=hs.len
    obtain⟨sl,si,sd,_⟩:=hspine.allV
    by_cases hcn:col<n
    · by_cases hPr:P.length<M.length
      · have hPw:P.length<ws.length:=by omega
        simp (disch:=omega) only [zA,zB,zC,zD,zF,zG,zH,↓reduceIte,hcn,sl,hPw]
        refine joinV1.via (fun r' H'=>∃ ws' M' P' op',r'=nv P'.length∧Pre (H++[fbx p e b c]) H'∧Spn cd (H++[fbx p e b c]).length sb ws' op' H' M'∧RedTo n (col+1) M' P'∧M'.length=rows.length∧(∀ u,LSpan M' u↔LSpan rows u)) ?_ ?_
        · intro J2 hJ2
          refine loopV1.ind (fun m i H'=>∃ k,i=nv k∧H'=H4∧P.length≤k∧k+m=M.length∧∀ j,P.length≤j→j<k→ent M j col=Fl.zero) (M.length-P.length) ⟨P.length,rfl,rfl,Nat.le_refl _,by omega,fun k h1 h2=>by omega⟩ ?_
          rintro m2 i8 H4 ⟨i,rfl,rfl,hi1,hi2,hi3⟩ J3 hJ3
          by_cases him:i<M.length
          · have hiw:i<ws.length:=by omega
            have hcw:col<(M.getD i []).length:=by rw [qb5 hr.width him];omega
            obtain⟨rl,ri,rd,_⟩:=(hs.row him).all Fl.zero
            by_cases he:ent M i col=Fl.zero
            · have he0:cd ((M.getD i []).getD col Fl.zero)=0:=(F.eq0 _).2 he
              simp (disch:=omega) only [zA,zB,zC,zD,zF,zG,zH,↓reduceIte,sl,si,sd,hiw,ri,rd,hcw,he0]
              refine hJ3 _ _ ⟨m2-1,by omega,i+1,rfl,rfl,by omega,by omega,fun k h1 h2=>?_⟩
              by_cases hki:k=i
              · rw [hki];exact he
              · exact hi3 k h1 (by omega)
            · have he0:¬cd ((M.getD i []).getD col Fl.zero)=0:=fun hh=>he ((F.eq0 _).1 hh)
              have hne2:¬i=ws.length:=by omega
              have hst:=hr.step him hi1 he
              have hspn:=qq2 (n:=n) hr.width hPr him he
              have hs2:=hs.set him (hs.row hPr) (hs.at_ hPr)
              have st1:=qq3 (v:=ws.getD P.length undef) hs.blk hiw (hs.row hPr).cells (hs.row hPr).one
              have ptr1:qfj (.slice (some ⟨sb,0,none⟩) rows.length rows.length) i=.pointer (some ⟨sb,i,none⟩):=by simp [qfj]
              have ptr2:qfj (.slice (some ⟨sb,0,none⟩) rows.length rows.length) P.length=.pointer (some ⟨sb,P.length,none⟩):=by simp [qfj]
              have hsbn:=hs.sn
              simp (disch:=omega) only [zA,zB,zC,zD,zF,zG,zH,↓reduceIte,sl,si,sd,hiw,hPw,ri,rd,hcw,he0,hne2]
              simp (disch:=omega) only [zA,zB,zC,zD,zF,zG,zH,↓reduceIte,ptr1,st1]
              have hp5:=hp.set (b:=sb) hs.sn (.cells (ws.set i (ws.getD P.length undef)) 31 op false)
              have hx5:=hs.keep (y:=.cells (ws.set i (ws.getD P.length undef)) 31 op false) (hs.row him)
              obtain⟨H5,hH5⟩:∃ H5,H5=H4.set sb (.cells (ws.set i (ws.getD P.length undef)) 31 op false):=⟨_,rfl⟩
              rw [←hH5] at hs2 hp5 hx5 ⊢
              have hbx5:H5[H.length]? = some (fbx p e b c):=hp5.get (by simp)
              have hb5:=((Pre.new H _).trans hp5).get hb
              obtain⟨_,ri5,rd5,_⟩:=hx5.all Fl.zero
              simp (disch:=omega) only [zA,zB,zC,zD,zF,zG,zH,↓reduceIte,hbx5,ri5,rd5,hcw]
              refine FZ.use (F.rinv _ _ hb5 he) ?_
              simp (disch:=omega) only [zA,zB,zC,zD,zF,zG,zH,↓reduceIte,hbx5]
              refine FZ.mono (rtimes_c F hb5 hx5 (by rw [qb5 hr.width him];omega)) ?_
              rintro w6 H6 ⟨hp6,ha6⟩
              have hs6:=hs2.pre hp6
              have hp06:=hp5.trans hp6
              have hrw:P.length<(ws.set i (ws.getD P.length undef)).length:=by rw [List.length_set];exact hPw
              have st2:=qq3 hs6.blk hrw ha6.row.cells ha6.row.one
              have hlo6:Lw.Lo (H++[fbx p e b c]).length w6:=fun a l c h=>Nat.le_trans hp5.len (Lw.acc_lo ha6 _ _ _ h)
              have hs7:=hs6.set (k:=P.length) (by rw [List.length_set];exact hPr) ha6.row hlo6
              have hp7:=hp06.set (b:=sb) hs.sn (.cells ((ws.set i (ws.getD P.length undef)).set P.length w6) 31 op false)
              have hfront:(M.set i (M.getD P.length [])).set P.length ((M.getD i []).map (Fl.mul (Fl.inv (ent M i col))))=qdm P.length i col M:=by unfold qdm;rw [List.set_set]
              change Spn cd _ sb _ op _ ((M.set i (M.getD P.length [])).set P.length ((M.getD i []).map (Fl.mul (Fl.inv (ent M i col))))) at hs7
              rw [hfront] at hs7
              simp (disch:=omega) only [zA,zB,zC,zD,zF,zG,zH,↓reduceIte,si,hPw,ptr2,st2]
              obtain⟨H7,hH7⟩:∃ H7,H7=H6.set sb (.cells ((ws.set i (ws.getD P.length undef)).set P.length w6) 31 op false):=⟨_,rfl⟩
              rw [←hH7] at hs7 hp7 ⊢
              have hNl:(qdm P.length i col M).length=M.length:=qdz
              have hNw:∀ k,k<M.length→((qdm P.length i col M).getD k []).length=n:=fun k hk=>qh0 hr.width hPr him hk
              have hEl:=qcm P.length col (qdm P.length i col M)
              have hEg:=fun k hk=>qfr (r:=P.length) (col:=col) (M:=qdm P.length i col M) (k:=k) hk
              obtain⟨N,hN⟩:∃ N,N=qdm P.length i col M:=⟨_,rfl⟩
              rw [←hN] at hs7 hNl hNw hEl hEg hst hspn
              obtain⟨E,hE⟩:∃ E,E=qh1 P.length col N:=⟨_,rfl⟩
              rw [←hE] at hEl hEg hst hspn
              have hNr:∀ k,k<N.length→k≠P.length→E.getD k []=lsub (N.getD k []) (ent N k col) (N.getD P.length []):=fun k hk hkr=>by rw [hEg k hk,if_neg hkr]
              have hNrr:E.getD P.length []=N.getD P.length []:=by rw [hEg _ (by omega),if_pos rfl]
              refine loopV1.nat M.length (fun k j H'=>j=nv k∧Pre (H++[fbx p e b c]) H'∧∃ us,Spn cd (H++[fbx p e b c]).length sb us op H' (E.take k++N.drop k)) ⟨rfl,hp7,_,by simpa using hs7⟩ ?_ ?_
              · rintro k j H8 hkm ⟨rfl,hp8,us,hs8⟩ J4 hJ4
                have hCl:(E.take k++N.drop k).length=M.length:=by simp;omega
                have hCk:=qj4 [] N E k (by omega)
                have hpre:=qm1 [] N E k (by omega) (by omega)
                have hul:=hs8.len
                have hku:k<us.length:=by omega
                have hPu:P.length<us.length:=by omega
                have hCr:(E.take k++N.drop k).getD P.length []=N.getD P.length []:=by
                  simp only [List.getD_eq_getElem?_getD]
                  by_cases hlt:P.length<k
                  · rw [List.getElem?_append_left (by simp;omega),List.getElem?_take_of_lt hlt]
                    simpa [List.getD_eq_getElem?_getD] using hNrr
                  · rw [List.getElem?_append_right (by simp;omega)]
                    simp only [List.length_take,List.getElem?_drop]
                    congr 2
                    omega
                obtain⟨tl,ti,td,_⟩:=(hs8.spine (l:=rows.length) (m:=rows.length) (by omega) (Nat.le_refl _)).allV
                by_cases hkr:k=P.length
                · subst hkr
                  simp (disch:=omega) only [zA,zB,zC,zD,zF,zG,zH,↓reduceIte,tl,hPu]
                  refine hJ4 _ _ ⟨rfl,hp8,us,?_⟩
                  rw [←hpre,hNrr,←hCr]
                  have:∀ (L:List (List α)) (k:Nat),k<L.length→L.set k (L.getD k [])=L:=fun L k hL=>by
                    refine List.ext_getElem (by simp) fun l h1 h2=>?_
                    by_cases hlk:k=l
                    · subst hlk;simp [List.getD_eq_getElem?_getD,List.getElem?_eq_getElem h2]
                    · simp [List.getElem_set_ne hlk]
                  rw [this _ _ (by rw [hCl];exact hkm)]
                  exact hs8
                · have hbx8:H8[H.length]? = some (fbx p e b c):=hp8.get (by simp)
                  have hb8:=((Pre.new H _).trans hp8).get hb
                  have hk8:k<(E.take k++N.drop k).length:=by omega
                  have hP8:P.length<(E.take k++N.drop k).length:=by omega
                  have hrowk:=hs8.row hk8
                  rw [hCk] at hrowk
                  have hrowr:=hs8.row hP8
                  rw [hCr] at hrowr
                  have hkw:=hNw k (by omega)
                  have hck:col<(N.getD k []).length:=by omega
                  obtain⟨_,ri8,rd8,_⟩:=hrowk.all Fl.zero
                  simp (disch:=omega) only [zA,zB,zC,zD,zF,zG,zH,↓reduceIte,tl,hku,hkr,hbx8]
                  refine joinV0.intro fun J5 hJ5=>?_
                  have b1:=hs8.ldB hku
                  have b2:=hs8.ldB hPu
                  simp (disch:=omega) only [zA,zB,zC,zD,zF,zG,zH,↓reduceIte,hbx8,b1,b2,hPu,ri8,rd8,hck]
                  refine FZ.use (F.rneg _ _ hb8) ?_
                  simp (disch:=omega) only [zA,zB,zC,zD,zF,zG,zH,↓reduceIte,hbx8,b1,b2]
                  refine FZ.mono (rtimes_c F hb8 hrowr (by rw [hNw _ hPr];omega)) ?_
                  rintro w9 H9 ⟨hp9,ha9⟩
                  have hbx9:=hp9.get hbx8
                  have hb9:=hp9.get hb8
                  have hs9:=hs8.pre hp9
                  obtain⟨tl9,ti9,td9,_⟩:=(hs9.spine (l:=rows.length) (m:=rows.length) (by omega) (Nat.le_refl _)).allV
                  have b3:=hs9.ldB hku
                  simp (disch:=omega) only [zA,zB,zC,zD,zF,zG,zH,Nat.reduceEqDiff,Nat.reduceLT,Nat.reduceLeDiff,↓reduceIte,hbx9,b3]
                  refine FZ.mono (rplus_c F hb9 (hrowk.pre hp9) ha9.row (by rw [List.length_map,hkw,hNw _ hPr]) (by omega)) ?_
                  rintro w10 H10 ⟨hp10,ha10⟩
                  have hp910:=hp9.trans hp10
                  have hs10:=hs8.pre hp910
                  rw [lsub_plus] at ha10
                  have hlo10:Lw.Lo (H++[fbx p e b c]).length w10:=fun a l c h=>Nat.le_trans (hp8.trans hp9).len (Lw.acc_lo ha10 _ _ _ h)
                  have st3:=qq3 hs10.blk hku ha10.row.cells ha10.row.one
                  have hs11:=hs10.set hk8 ha10.row hlo10
                  have ptr3:qfj (.slice (some ⟨sb,0,none⟩) rows.length rows.length) k=.pointer (some ⟨sb,k,none⟩):=by simp [qfj]
                  simp (disch:=omega) only [zA,zB,zC,zD,zF,zG,zH,↓reduceIte,ti,hku,ptr3,st3]
                  refine hJ5 _ ?_
                  simp (disch:=omega) only [zA,zB,zC,zD,zF,zG,zH,↓reduceIte]
                  refine hJ4 _ _ ⟨rfl,(hp8.trans hp910).set hs.sn _,us.set k w10,?_⟩
                  have hEk:=hNr k (by omega) hkr
                  change E.getD k []=lsub (N.getD k []) ((N.getD k []).getD col Fl.zero) (N.getD P.length []) at hEk
                  rw [←hEk,hpre] at hs11
                  exact hs11
              · rintro j H8 ⟨rfl,hp8,us,hs8⟩ J4
                rw [List.take_of_length_le (by omega),List.drop_of_length_le (by omega),List.append_nil] at hs8
                have hul:=hs8.len
                obtain⟨tl,_,_,_⟩:=(hs8.spine (l:=rows.length) (m:=rows.length) (by omega) (Nat.le_refl _)).allV
                have hnu:¬M.length<us.length:=by omega
                simp (disch:=omega) only [zA,zB,zC,zD,zF,zG,zH,↓reduceIte,tl,hnu]
                exact hJ2 _ _ ⟨us,E,P++[col],op,by simp,hp8,hs8,hst,by omega,fun u=>(hspn u).trans (hsp u)⟩
          · have hnw:¬i<ws.length:=by omega
            have hme:i=ws.length:=by omega
            simp (disch:=omega) only [zA,zB,zC,zD,zF,zG,zH,↓reduceIte,sl,hnw,hme]
            exact hJ2 _ _ ⟨ws,M,P,op,rfl,hp,hs,hr.skip fun k h1 h2=>hi3 k h1 (by omega),hMl,hsp⟩
        · rintro r' H5 ⟨ws',M',P',op',rfl,h1,h2,h3,h4,h5⟩
          simp (disch:=omega) only [zA,zB,zC,zD,zF,zG,zH,↓reduceIte]
          exact hJ _ _ _ ⟨m-1,by omega,col+1,ws',M',P',op',rfl,rfl,by omega,h1,h2,h3,h4,h5⟩
      · have hPw:¬P.length<ws.length:=by omega
        simp (disch:=omega) only [zA,zB,zC,zD,zF,zG,zH,↓reduceIte,hcn,sl,hPw]
        have hfull:=hr.full (by omega) (.inl (by omega))
        obtain⟨d1,d2⟩:=hfull.done
        have hres:M.take P.length=qbk rows:=by
          obtain⟨h1,h2,_⟩:=qbz hl
          exact d1.unique h1 fun u=>(d2 u).trans ((hsp u).trans (h2 u).symm)
        have hPle:P.length≤rows.length:=by omega
        simp (disch:=omega) only [zA,zB,zC,zD,zF,zG,zH,↓reduceIte,qf8,hPle]
        refine⟨hp0,ws.take P.length,RowX.of_take hs.blk (by omega) hPle,?_,?_,?_⟩
        · rw [←hres]
          refine⟨by simp;omega,fun k hk=>?_⟩
          have hk':k<P.length:=by simp at hk;omega
          have e1:(ws.take P.length).getD k undef=ws.getD k undef:=by simp [List.getD_eq_getElem?_getD,List.getElem?_take_of_lt hk']
          have e2:(evr cd (M.take P.length)).getD k []=evs cd (M.getD k []):=by
            rw [show ([]:List Value)=evs cd [] from rfl,qds]
            simp [List.getD_eq_getElem?_getD,List.getElem?_take_of_lt hk']
          rw [e1,e2]
          exact hs.row (by omega)
        · intro a l c h;cases h;have:=hs.sn;simp at this ⊢;omega
        · intro x hx a l c h;have:=hs.low x (List.mem_of_mem_take hx) a l c h;simp at this;omega
    · simp (disch:=omega) only [zA,zB,zC,zD,zF,zG,zH,↓reduceIte,hcn]
      have hfull:=hr.full (by omega) (.inr (by omega))
      obtain⟨d1,d2⟩:=hfull.done
      have hres:M.take P.length=qbk rows:=by
        obtain⟨h1,h2,_⟩:=qbz hl
        exact d1.unique h1 fun u=>(d2 u).trans ((hsp u).trans (h2 u).symm)
      have hPle:P.length≤rows.length:=by omega
      simp (disch:=omega) only [zA,zB,zC,zD,zF,zG,zH,↓reduceIte,qf8,hPle]
      refine⟨hp0,ws.take P.length,RowX.of_take hs.blk (by omega) hPle,?_,?_,?_⟩
      · rw [←hres]
        refine⟨by simp;omega,fun k hk=>?_⟩
        have hk':k<P.length:=by simp at hk;omega
        have e1:(ws.take P.length).getD k undef=ws.getD k undef:=by simp [List.getD_eq_getElem?_getD,List.getElem?_take_of_lt hk']
        have e2:(evr cd (M.take P.length)).getD k []=evs cd (M.getD k []):=by
          rw [show ([]:List Value)=evs cd [] from rfl,qds]
          simp [List.getD_eq_getElem?_getD,List.getElem?_take_of_lt hk']
        rw [e1,e2]
        exact hs.row (by omega)
      · intro a l c h;cases h;have:=hs.sn;simp at this ⊢;omega
      · intro x hx a l c h;have:=hs.low x (List.mem_of_mem_take hx) a l c h;simp at this;omega
end
end Go.Sim

namespace Go.Sim
open Fl
section
variable {α:Type} [Fl α] [DecidableEq α]
structure LM (m n:Nat) (T:List α→List α) (t:Vc α→Vc α):Prop where
  len:∀ x:List α,x.length=m→(T x).length=n
  eq:∀ x:List α,x.length=m→toV (T x)=t (toV x)
  add:∀ u v,t (va u v)=va (t u) (t v)
  smul:∀ c u,t (vs c u)=vs c (t u)
theorem LM.zero {m n:Nat} {T:List α→List α} {t:Vc α→Vc α} (h:LM m n T t):t vz=vz:=by
  have:=h.smul Fl.zero vz
  rwa [qgg,qgg] at this
theorem LM.span {m n:Nat} {T:List α→List α} {t:Vc α→Vc α} (h:LM m n T t) {L:List (List α)} (hl:∀ x∈L,x.length=m) (u:Vc α):LSpan (L.map T) u↔∃ v,LSpan L v∧u=t v:=by
  constructor
  · intro hu
    refine LSpan.sub (L:=L.map T) (S:=fun u=>∃ v,LSpan L v∧u=t v) ⟨vz,Span.zero,h.zero.symm⟩ ?_ ?_ ?_ hu
    · rintro _ _ ⟨v,hv,rfl⟩ ⟨w,hw,rfl⟩;exact⟨va v w,Span.add hv hw,(h.add v w).symm⟩
    · rintro c _ ⟨v,hv,rfl⟩;exact⟨vs c v,Span.smul c hv,(h.smul c v).symm⟩
    · intro y hy
      obtain⟨x,hx,rfl⟩:=List.mem_map.1 hy
      exact⟨toV x,LSpan.mem hx,h.eq x (hl x hx)⟩
  · rintro⟨v,hv,rfl⟩
    refine LSpan.sub (L:=L) (S:=fun v=>LSpan (L.map T) (t v)) ?_ ?_ ?_ ?_ hv
    · rw [h.zero];exact Span.zero
    · intro a b ha hb;rw [h.add];exact Span.add ha hb
    · intro c a ha;rw [h.smul];exact Span.smul c ha
    · intro x hx;rw [←h.eq x (hl x hx)];exact LSpan.mem (List.mem_map_of_mem hx)
theorem lred_eq {n:Nat} {X Y:List (List α)} (hX:∀ x∈X,x.length=n) (hY:∀ x∈Y,x.length=n) (h:∀ u,LSpan X u↔LSpan Y u):qbk X=qbk Y:=by
  obtain⟨a1,a2,_⟩:=qbz hX
  obtain⟨b1,b2,_⟩:=qbz hY
  exact LRed.unique a1 b1 fun u=>(a2 u).trans ((h u).trans (b2 u).symm)
theorem lred_self {n:Nat} {G:List (List α)} (h:LRed n G):qbk G=G:=by
  have hl:∀ x∈G,x.length=n:=fun x hx=>h.piv.1 x hx
  obtain⟨a1,a2,_⟩:=qbz hl
  exact LRed.unique a1 h a2
theorem LM.width {m n:Nat} {T:List α→List α} {t:Vc α→Vc α} (h:LM m n T t) {L:List (List α)} (hl:∀ x∈L,x.length=m):∀ y∈L.map T,y.length=n:=by
  intro y hy
  obtain⟨x,hx,rfl⟩:=List.mem_map.1 hy
  exact h.len x (hl x hx)
def pick (n:Nat) (p:Nat→Nat) (x:List α):List α:=(List.range n).map fun j=>x.getD (p j) Fl.zero
def vpick (n:Nat) (p:Nat→Nat) (v:Vc α):Vc α:=fun j=>if j<n then v (p j) else Fl.zero
theorem qck (n:Nat) (p:Nat→Nat) (x:List α):(pick n p x).length=n:=by simp [pick]
theorem pick_get {n:Nat} {p:Nat→Nat} {x:List α} {j:Nat} (hj:j<n):(pick n p x).getD j Fl.zero=x.getD (p j) Fl.zero:=by
  simp [pick,List.getD_eq_getElem?_getD,hj]
theorem toV_pick (n:Nat) (p:Nat→Nat) (x:List α):toV (pick n p x)=vpick n p (toV x):=by
  funext j
  unfold toV vpick
  by_cases hj:j<n
  · rw [if_pos hj,pick_get hj]
  · rw [if_neg hj,List.getD_eq_getElem?_getD,List.getElem?_eq_none (by rw [qck];omega)];rfl
theorem LM.pick (m n:Nat) (p:Nat→Nat):LM (α:=α) m n (pick n p) (vpick n p):=by
  refine⟨fun x _=>qck n p x,fun x _=>toV_pick n p x,fun u v=>?_,fun c u=>?_⟩
  · funext j;unfold vpick va;by_cases h:j<n<;>simp [h,Fl.add_zero]
  · funext j;unfold vpick vs;by_cases h:j<n<;>simp [h,Fl.mul_zero]
def vsum:Nat→Vc α→α
  | 0,_=>Fl.zero
  | k+1,v=>Fl.add (vsum k v) (v k)
theorem vsum_add (u v:Vc α):∀ k,vsum k (va u v)=Fl.add (vsum k u) (vsum k v)
  | 0=>(Fl.add_zero _).symm
  | k+1=>by simp only [vsum,vsum_add u v k,va];exact Fl.add_swap _ _ _ _
theorem qqw (c:α) (v:Vc α):∀ k,vsum k (vs c v)=Fl.mul c (vsum k v)
  | 0=>(Fl.mul_zero _).symm
  | k+1=>by simp only [vsum,qqw c v k,vs,Fl.mul_add]
def lext (n:Nat) (x:List α):List α:=x++[Fl.neg (vsum n (toV x))]
def vext (n:Nat) (v:Vc α):Vc α:=fun j=>if j<n then v j else if j=n then Fl.neg (vsum n v) else Fl.zero
theorem neg_add' (a b:α):Fl.neg (Fl.add a b)=Fl.add (Fl.neg a) (Fl.neg b):=by
  refine Fl.add_left_cancel (a:=Fl.add a b) ?_
  rw [Fl.add_neg,Fl.add_swap,Fl.add_neg,Fl.add_neg,Fl.add_zero]
theorem mul_neg' (a b:α):Fl.mul a (Fl.neg b)=Fl.neg (Fl.mul a b):=by
  refine Fl.add_left_cancel (a:=Fl.mul a b) ?_
  rw [Fl.add_neg,←Fl.mul_add,Fl.add_neg,Fl.mul_zero]
theorem LM.ext (n:Nat):LM (α:=α) n (n+1) (lext n) (vext n):=by
  refine⟨fun x hx=>by simp [lext,hx],fun x hx=>?_,fun u v=>?_,fun c u=>?_⟩
  · funext j
    have e:toV (lext n x) j=(lext n x).getD j Fl.zero:=rfl
    rw [e]
    unfold lext vext
    rw [List.getD_eq_getElem?_getD]
    by_cases h1:j<n
    · rw [List.getElem?_append_left (by omega),if_pos h1];rfl
    · rw [if_neg h1,List.getElem?_append_right (by omega)]
      by_cases h2:j=n
      · rw [if_pos h2,h2,hx];simp
      · rw [if_neg h2,List.getElem?_eq_none (by simp;omega)];rfl
  · funext j
    unfold vext
    by_cases h1:j<n
    · simp [h1,va]
    · by_cases h2:j=n
      · subst h2;simp [va];rw [vsum_add,neg_add']
      · simp [h1,h2,va,Fl.add_zero]
  · funext j
    unfold vext
    by_cases h1:j<n
    · simp [h1,vs]
    · by_cases h2:j=n
      · subst h2;simp [vs];rw [qqw,mul_neg']
      · simp [h1,h2,vs,Fl.mul_zero]
structure Lf (f:Vc α→α):Prop where
  add:∀ u v,f (va u v)=Fl.add (f u) (f v)
  smul:∀ c u,f (vs c u)=Fl.mul c (f u)
theorem Lf.zero {f:Vc α→α} (h:Lf f):f vz=Fl.zero:=by
  have:=h.smul Fl.zero vz
  rwa [qgg,Fl.zero_mul] at this
def qj9 (f:Vc α→α) (p x:List α):List α:=(List.range x.length).map fun j=>Fl.add (x.getD j Fl.zero) (Fl.mul (Fl.neg (Fl.mul (f (toV x)) (Fl.inv (f (toV p))))) (p.getD j Fl.zero))
theorem lkill_len (f:Vc α→α) (p x:List α):(qj9 f p x).length=x.length:=by simp [qj9]
theorem qq1 {f:Vc α→α} {p x:List α} (h:p.length=x.length):toV (qj9 f p x)=va (toV x) (vs (Fl.neg (Fl.mul (f (toV x)) (Fl.inv (f (toV p))))) (toV p)):=by
  unfold qj9
  generalize Fl.neg (Fl.mul (f (toV x)) (Fl.inv (f (toV p))))=c
  funext j
  unfold toV va vs
  simp only [List.getD_eq_getElem?_getD]
  by_cases hj:j<x.length
  · simp [hj]
  · rw [List.getElem?_eq_none (by simp;omega),List.getElem?_eq_none (l:=x) (by omega),List.getElem?_eq_none (l:=p) (by omega)]
    simp [Fl.mul_zero,Fl.add_zero]
def qf0 (f:Vc α→α) (rows:List (List α)):List (List α):=
  match rows.findIdx? fun r=>decide (f (toV r)≠Fl.zero) with
  | none=>rows
  | some at_=>(rows.eraseIdx at_).map (qj9 f (rows.getD at_ []))
theorem neg_mul' (a b:α):Fl.mul (Fl.neg a) b=Fl.neg (Fl.mul a b):=by rw [Fl.mul_comm,mul_neg',Fl.mul_comm]
theorem kill_zero {f:Vc α→α} (hf:Lf f) {p x:List α} (h:p.length=x.length) (hp:f (toV p)≠Fl.zero):f (toV (qj9 f p x))=Fl.zero:=by
  rw [qq1 h,hf.add,hf.smul,neg_mul',Fl.mul_assoc,Fl.mul_comm (Fl.inv _),Fl.mul_inv _ hp,Fl.mul_one,Fl.add_neg]
theorem qfz {n:Nat} {f:Vc α→α} {rows:List (List α)} (hl:∀ x∈rows,x.length=n):∀ x∈qf0 f rows,x.length=n:=by
  unfold qf0
  split
  · exact hl
  · intro x hx
    obtain⟨y,hy,rfl⟩:=List.mem_map.1 hx
    rw [lkill_len];exact hl y (List.mem_of_mem_eraseIdx hy)
theorem qm8 {n:Nat} {f:Vc α→α} (hf:Lf f) {rows:List (List α)} (hl:∀ x∈rows,x.length=n) (u:Vc α):LSpan (qf0 f rows) u↔LSpan rows u∧f u=Fl.zero:=by
  unfold qf0
  split
  · rename_i hn
    have h0:∀ x∈rows,f (toV x)=Fl.zero:=by
      intro x hx
      have:=List.findIdx?_eq_none_iff.1 hn x hx
      simpa using this
    constructor
    · intro hu
      refine⟨hu,?_⟩
      refine LSpan.sub (L:=rows) (S:=fun u=>f u=Fl.zero) hf.zero ?_ ?_ h0 hu
      · intro a b ha hb;rw [hf.add,ha,hb,Fl.add_zero]
      · intro c a ha;rw [hf.smul,ha,Fl.mul_zero]
    · exact fun h=>h.1
  · rename_i k hk
    obtain⟨hkl,hk1,_⟩:=List.findIdx?_eq_some_iff_getElem.1 hk
    have hp:f (toV rows[k])≠Fl.zero:=by simpa using hk1
    have hg:rows.getD k []=rows[k]:=qcb hkl
    rw [hg]
    have hpl:rows[k].length=n:=hl _ (List.getElem_mem hkl)
    constructor
    · intro hu
      refine LSpan.sub (S:=fun u=>LSpan rows u∧f u=Fl.zero) ⟨Span.zero,hf.zero⟩ ?_ ?_ ?_ hu
      · rintro a b ⟨a1,a2⟩ ⟨b1,b2⟩;exact⟨Span.add a1 b1,by rw [hf.add,a2,b2,Fl.add_zero]⟩
      · rintro c a ⟨a1,a2⟩;exact⟨Span.smul c a1,by rw [hf.smul,a2,Fl.mul_zero]⟩
      · intro y hy
        obtain⟨x,hx,rfl⟩:=List.mem_map.1 hy
        have hxm:=List.mem_of_mem_eraseIdx hx
        have hlx:rows[k].length=x.length:=by rw [hpl,hl x hxm]
        refine⟨?_,kill_zero hf hlx hp⟩
        rw [qq1 hlx]
        exact Span.add (LSpan.mem hxm) (Span.smul _ (LSpan.mem (List.getElem_mem hkl)))
    · rintro⟨hu,h0⟩
      -- u is a part in the span of the new rows, and a multiple of p
      have key:∃ s c,LSpan ((rows.eraseIdx k).map (qj9 f rows[k])) s∧u=va s (vs c (toV rows[k])):=by
        refine LSpan.sub (L:=rows) (S:=fun u=>∃ s c,LSpan ((rows.eraseIdx k).map (qj9 f rows[k])) s∧u=va s (vs c (toV rows[k]))) ⟨vz,Fl.zero,Span.zero,by rw [qgg,qc3]⟩ ?_ ?_ ?_ hu
        · rintro _ _ ⟨s,c,hs,rfl⟩ ⟨s',c',hs',rfl⟩
          refine⟨va s s',Fl.add c c',Span.add hs hs',?_⟩
          funext j
          show Fl.add (Fl.add (s j) (Fl.mul c _)) (Fl.add (s' j) (Fl.mul c' _))=Fl.add (Fl.add (s j) (s' j)) (Fl.mul (Fl.add c c') _)
          rw [Fl.add_swap,Fl.add_mul]
        · rintro d _ ⟨s,c,hs,rfl⟩
          exact⟨vs d s,Fl.mul d c,Span.smul d hs,by rw [vs_va,vs_vs]⟩
        · intro x hx
          obtain⟨m,hm,rfl⟩:=List.mem_iff_getElem.1 hx
          by_cases e:m=k
          · subst e;exact⟨vz,Fl.one,Span.zero,by rw [vs_one,qj3]⟩
          · have hmem:rows[m]∈rows.eraseIdx k:=by
              rw [List.mem_eraseIdx_iff_getElem];exact⟨m,hm,e,rfl⟩
            have hlx:rows[k].length=rows[m].length:=by rw [hpl,hl _ (List.getElem_mem hm)]
            refine⟨toV (qj9 f rows[k] rows[m]),Fl.mul (f (toV rows[m])) (Fl.inv (f (toV rows[k]))),LSpan.mem (List.mem_map_of_mem hmem),?_⟩
            rw [qq1 hlx,qg3,←add_vs,Fl.add_comm (Fl.neg _),Fl.add_neg,qgg,qc3]
      obtain⟨s,c,hs,rfl⟩:=key
      have hs0:f s=Fl.zero:=by
        refine LSpan.sub (S:=fun u=>f u=Fl.zero) hf.zero ?_ ?_ ?_ hs
        · intro a b ha hb;rw [hf.add,ha,hb,Fl.add_zero]
        · intro c a ha;rw [hf.smul,ha,Fl.mul_zero]
        · intro y hy
          obtain⟨x,hx,rfl⟩:=List.mem_map.1 hy
          exact kill_zero hf (by rw [hpl,hl x (List.mem_of_mem_eraseIdx hx)]) hp
      rw [hf.add,hs0,hf.smul,Fl.zero_add] at h0
      have hc:c=Fl.zero:=by
        have h1:=congrArg (fun z=>Fl.mul z (Fl.inv (f (toV rows[k])))) h0
        simp only [Fl.zero_mul] at h1
        rwa [Fl.mul_assoc,Fl.mul_inv _ hp,Fl.mul_one] at h1
      rw [hc,qgg,qc3];exact hs
end
end Go.Sim

namespace Go.Sim
open Fl
section
variable {α:Type} [Fl α] [DecidableEq α]
theorem Lf.vsum (n:Nat):Lf (α:=α) (vsum n):=⟨fun u v=>vsum_add u v n,fun c u=>qqw c u n⟩
theorem Lf.at_ (i:Nat):Lf (α:=α) (fun v=>v i):=⟨fun _ _=>rfl,fun _ _=>rfl⟩
def lev (f:Vc α→α) (G:List (List α)):List (List α):=qbk (qf0 f G)
theorem lev_span {n:Nat} {f:Vc α→α} (hf:Lf f) {G:List (List α)} (hl:∀ x∈G,x.length=n) (u:Vc α):LSpan (lev f G) u↔LSpan G u∧f u=Fl.zero:=by
  obtain⟨_,a2,_⟩:=qbz (qfz (f:=f) hl)
  exact (a2 u).trans (qm8 hf hl u)
theorem lev_red {n:Nat} {f:Vc α→α} {G:List (List α)} (hl:∀ x∈G,x.length=n):LRed n (lev f G):=(qbz (qfz (f:=f) hl)).1
theorem LRed.len {n:Nat} {G:List (List α)} (h:LRed n G):∀ x∈G,x.length=n:=fun x hx=>h.piv.1 x hx
def qc0 (i j:Nat):Nat:=if j<i then j else j+1
def vskip (i:Nat) (v:Vc α):Vc α:=fun j=>v (qc0 i j)
structure Cd (n:Nat) (G:List (List α)) (S:Vc α→Prop):Prop where
  red:LRed n G
  span:∀ u,LSpan G u↔S u
theorem Cd.eq {n:Nat} {G G':List (List α)} {S S':Vc α→Prop} (h:Cd n G S) (h':Cd n G' S') (hs:∀ u,S u↔S' u):G=G':=
  LRed.unique h.red h'.red fun u=>(h.span u).trans ((hs u).trans (h'.span u).symm)
theorem Cd.self {n:Nat} {G:List (List α)} (h:LRed n G):Cd n G (LSpan G):=⟨h,fun _=>Iff.rfl⟩
theorem Cd.out {n:Nat} {G:List (List α)} {S:Vc α→Prop} (h:Cd n G S) {u:Vc α} (hu:S u):∀ j,n≤j→u j=Fl.zero:=by
  intro j hj
  have:=(h.span u).2 hu
  refine LSpan.sub (S:=fun u=>u j=Fl.zero) rfl ?_ ?_ ?_ this
  · intro a b ha hb;show Fl.add (a j) (b j)=_;rw [ha,hb,Fl.add_zero]
  · intro c a ha;show Fl.mul c (a j)=_;rw [ha,Fl.mul_zero]
  · intro x hx;exact qft (by rw [h.red.len x hx];exact hj)
theorem qh9 {n i:Nat} {v:Vc α} (hv:∀ j,n≤j→v j=Fl.zero) (hi:i<n):vpick (n-1) (qc0 i) v=vskip i v:=by
  funext j
  unfold vpick vskip
  by_cases h:j<n-1
  · rw [if_pos h]
  · rw [if_neg h,hv _ (by unfold qc0;rw [if_neg (by omega)];omega)]
theorem Cd.punct {n i:Nat} {G:List (List α)} {S:Vc α→Prop} (h:Cd n G S) (hi:i<n):Cd (n-1) (qbk (G.map (pick (n-1) (qc0 i)))) (fun u=>∃ v,S v∧u=vskip i v):=by
  obtain⟨a1,a2,_⟩:=qbz ((LM.pick n (n-1) (qc0 i)).width h.red.len)
  refine⟨a1,fun u=>(a2 u).trans (((LM.pick n (n-1) (qc0 i)).span h.red.len u).trans ?_)⟩
  constructor
  · rintro⟨v,hv,e⟩
    have hS:=(h.span v).1 hv
    exact⟨v,hS,by rw [e,qh9 (h.out hS) hi]⟩
  · rintro⟨v,hv,e⟩;exact⟨v,(h.span v).2 hv,by rw [e,qh9 (h.out hv) hi]⟩
theorem Cd.short {n i:Nat} {G:List (List α)} {S:Vc α→Prop} (h:Cd n G S) (hi:i<n):Cd (n-1) (qbk ((qf0 (fun v=>v i) G).map (pick (n-1) (qc0 i)))) (fun u=>∃ v,S v∧v i=Fl.zero∧u=vskip i v):=by
  have hl:=qfz (f:=fun v:Vc α=>v i) h.red.len
  obtain⟨a1,a2,_⟩:=qbz ((LM.pick n (n-1) (qc0 i)).width hl)
  refine⟨a1,fun u=>(a2 u).trans (((LM.pick n (n-1) (qc0 i)).span hl u).trans ?_)⟩
  constructor
  · rintro⟨v,hv,e⟩
    obtain⟨hv,h0⟩:=(qm8 (Lf.at_ i) h.red.len v).1 hv
    have hS:=(h.span v).1 hv
    exact⟨v,hS,h0,by rw [e,qh9 (h.out hS) hi]⟩
  · rintro⟨v,hv,h0,e⟩;exact⟨v,(qm8 (Lf.at_ i) h.red.len v).2 ⟨(h.span v).2 hv,h0⟩,by rw [e,qh9 (h.out hv) hi]⟩
def lsum (n m:Nat) (A B:List (List α)):List (List α):=A.map (pick (n+m) fun j=>j)++B.map (pick (n+m) fun j=>if j<n then m else j-n)
theorem lspan_app {A B:List (List α)} (u:Vc α):LSpan (A++B) u↔∃ v w,LSpan A v∧LSpan B w∧u=va v w:=by
  constructor
  · intro hu
    refine LSpan.sub (L:=A++B) (S:=fun u=>∃ v w,LSpan A v∧LSpan B w∧u=va v w) ⟨vz,vz,Span.zero,Span.zero,(qc3 _).symm⟩ ?_ ?_ ?_ hu
    · rintro _ _ ⟨v,w,h1,h2,rfl⟩ ⟨v',w',h3,h4,rfl⟩
      refine⟨va v v',va w w',Span.add h1 h3,Span.add h2 h4,?_⟩
      funext j;exact Fl.add_swap _ _ _ _
    · rintro c _ ⟨v,w,h1,h2,rfl⟩;exact⟨vs c v,vs c w,Span.smul c h1,Span.smul c h2,vs_va _ _ _⟩
    · intro x hx
      rcases List.mem_append.1 hx with h|h
      · exact⟨toV x,vz,LSpan.mem h,Span.zero,(qc3 _).symm⟩
      · exact⟨vz,toV x,Span.zero,LSpan.mem h,(qj3 _).symm⟩
  · rintro⟨v,w,h1,h2,rfl⟩
    exact Span.add (h1.mono fun x hx=>LSpan.mem (List.mem_append_left _ hx)) (h2.mono fun x hx=>LSpan.mem (List.mem_append_right _ hx))
end
end Go.Sim

namespace Go.Sim
open Fl
section
variable {α:Type} [Fl α] [DecidableEq α]
section
variable {n m:Nat} {A B:List (List α)} {S T:Vc α→Prop}
end
def Pm (n:Nat) (g:List Nat):Prop:=g.Perm (List.range n)
theorem Pm.len {n:Nat} {g:List Nat} (h:Pm n g):g.length=n:=by rw [h.length_eq];simp
theorem Pm.nodup {n:Nat} {g:List Nat} (h:Pm n g):g.Nodup:=h.symm.nodup List.nodup_range
theorem Pm.lt {n:Nat} {g:List Nat} (h:Pm n g) {i:Nat} (hi:i<n):g.getD i 0<n:=by
  have:g.getD i 0∈g:=getD_mem (by rw [h.len];exact hi)
  exact List.mem_range.1 (h.mem_iff.1 this)
theorem Pm.inj {n:Nat} {g:List Nat} (h:Pm n g) {i j:Nat} (hi:i<n) (hj:j<n) (e:g.getD i 0=g.getD j 0):i=j:=by
  have hl:=h.len
  rw [List.getD_eq_getElem?_getD,List.getD_eq_getElem?_getD,List.getElem?_eq_getElem (by omega),List.getElem?_eq_getElem (by omega)] at e
  exact (List.getElem_inj h.nodup).1 e
theorem Pm.sur {n:Nat} {g:List Nat} (h:Pm n g) {j:Nat} (hj:j<n):∃ i,i<n∧g.getD i 0=j:=by
  have hm:j∈g:=h.mem_iff.2 (List.mem_range.2 hj)
  obtain⟨i,hi,e⟩:=List.mem_iff_getElem.1 hm
  exact⟨i,by have:=h.len;omega,by simp [List.getD_eq_getElem?_getD,hi,e]⟩
theorem Pm.put {n k:Nat} {g:List Nat} (h:Pm n g):Pm (n+1) (g.take k++n :: g.drop k):=by
  unfold Pm
  rw [List.range_succ]
  refine (List.perm_middle).trans ?_
  rw [List.take_append_drop]
  exact (List.Perm.cons n h).trans (List.perm_append_singleton n _).symm
theorem qnd {n:Nat} {g:List Nat} (h:Pm n g) {i:Nat} (hi:i<n):g.idxOf (g.getD i 0)=i:=by
  have hl:=h.len
  rw [List.getD_eq_getElem?_getD,List.getElem?_eq_getElem (by omega)]
  exact h.nodup.idxOf_getElem i (by omega)
theorem get_idx {n:Nat} {g:List Nat} (h:Pm n g) {j:Nat} (hj:j<n):g.idxOf j<n∧g.getD (g.idxOf j) 0=j:=by
  obtain⟨i,hi,rfl⟩:=h.sur hj
  rw [qnd h hi];exact⟨hi,rfl⟩
def qm7 (n:Nat) (g:List Nat) (x:List α):List α:=pick n (fun j=>g.idxOf j) x
end
end Go.Sim

namespace Go.Sim
open Go Go.Proofs
theorem Lw.RowLo.mono {m n:Nat} {H:AH} {v:Value} {css:List (List Value)} (h:Lw.RowLo n H v css) (hm:m≤n):Lw.RowLo m H v css:=by
  obtain⟨vs,h1,h2,h3,h4⟩:=h
  exact⟨vs,h1,h2,fun a l c e=>Nat.le_trans hm (h3 a l c e),fun x hx a l c e=>Nat.le_trans hm (h4 x hx a l c e)⟩
theorem Lw.RowLo.pre {n:Nat} {H H':AH} {v:Value} {css:List (List Value)} (h:Lw.RowLo n H v css) (hp:Pre H H'):Lw.RowLo n H' v css:=by
  obtain⟨vs,h1,h2,h3,h4⟩:=h
  exact⟨vs,h1.pre hp,h2.pre hp,h3,h4⟩
theorem Lw.RowLo.one {n:Nat} {H:AH} {v:Value} {css:List (List Value)} (h:Lw.RowLo n H v css):one v=true:=by obtain⟨_,h,_⟩:=h;exact h.1.one
theorem Lw.RowLo.fill {n:Nat} {H:AH} {v:Value} {css:List (List Value)} (h:Lw.RowLo n H v css):∀ (c:List Value) (off:Nat) (pl:List (Nat×Nat)) (vs:List Value),off<c.length→qbr c ((off,1) :: pl) (v :: vs)=qbr (c.set off v) pl vs:=by obtain⟨_,h,_⟩:=h;exact h.1.fill
theorem RowR.one' {H:AH} {v:Value} {css:List (List Value)} (h:RowR H v css):one v=true:=by obtain⟨_,h,_⟩:=h;exact h.1.one
section
variable {α:Type} [Fl α] [DecidableEq α] {cd:α→Nat} {p e b c q:Nat} {blk:AB} {H:AH}
theorem preduce_rowsLo {n n0 mb sb:Nat} {bs:List Nat} {M':List (List α)} {k:Nat} (h:Mat cd p e b c n mb sb bs H M') (hk:k≤M'.length) (h1:n0≤sb) (h2:∀ x∈bs,n0≤x):Lw.RowLo n0 H (.slice (some ⟨sb,0,none⟩) k bs.length) (evr cd (M'.take k)):=by
  obtain⟨op,ho⟩:=h.spine
  have hl:=h.len
  refine⟨_,RowX.of_take ho (by simp;omega) (by omega),⟨by simp;omega,fun j hj=>?_⟩,(by rintro a l c e;cases e;exact h1),fun x hx a l c e=>?_⟩
  · have hj':j<k:=by simp at hj;omega
    have hr:=h.row j (by omega)
    have e1:((bs.map (rsl n)).take k).getD j undef=rsl n (bs.getD j 0):=by
      simp [List.getD_eq_getElem?_getD,List.getElem?_take_of_lt hj',List.getElem?_eq_getElem (show j<bs.length by omega)]
    have e2:(evr cd (M'.take k)).getD j []=evs cd (M'.getD j []):=by
      simp [List.getD_eq_getElem?_getD,List.getElem?_take_of_lt hj',List.getElem?_eq_getElem (show j<M'.length by omega)]
    rw [e1,e2]
    exact Row.of hr (by rw [List.length_map,qb5 h.width (by omega)]) (Nat.le_refl _)
  · obtain⟨y,hy,rfl⟩:=List.mem_map.1 (List.mem_of_mem_take hx)
    cases e;exact h2 y hy
theorem reduce_lo (F:FOK α cd p e b c q blk) {v:Value} {n:Nat} {M:List (List α)} (hb:H[b]? = some blk) (hv:RowR H v (evr cd M)) (hl:∀ x∈M,x.length=n) (hM:M.length≤1000) (hn:n≤1000) (hn0:0<n) :
    FN Tryz.prog 173 [fldv p e b e c,v] H (fun r H'=>Pre H H'∧Lw.RowLo H.length H' r (evr cd (qbk M))):=by
  refine g173_of ?_
  unfold g173
  have hp1:=Pre.new H [fbx p e b c]
  simp (disch:=omega) only [zA,zB,zC,zD,zF,zG,zH,↓reduceIte]
  refine FZ.mono (of_c F (hv.pre hp1) hl hM hn hn0) ?_
  rintro m H2 ⟨hp2,mb,rfl,hmb,hm⟩
  have hp02:=hp1.trans hp2
  have hb2:=hp02.get hb
  rcases hm with ⟨rfl,hm⟩|⟨hM0,sb,bs,hm,hnew⟩
  · simp (disch:=omega) only [zA,zB,zC,zD,zF,zG,zH,↓reduceIte,hm]
    refine FZ.use (width_c (hv.pre hp02) hl) ?_
    simp (disch:=omega) only [zA,zB,zC,zD,zF,zG,zH,↓reduceIte,hm]
    refine FZ.use (preduce0_c hm (by simp)) ?_
    simp (disch:=omega) only [zA,zB,zC,zD,zF,zG,zH,↓reduceIte,hm]
    have e1:qbc (.slS 1 false true) [.slice none 0 0,nv 0]=some (.slice none 0 0):=rfl
    simp (disch:=omega) only [zA,zB,zC,zD,zF,zG,zH,↓reduceIte,e1]
    exact⟨hp02,[],⟨Row.nil,rfl⟩,⟨rfl,by simp [qbk]⟩,(by rintro a l c e;cases e),by simp⟩
  · have v0:=hm.var
    have hbn:b∉mb :: sb :: bs:=fun hx=>by have:=hnew b hx;have:=qbx hb;simp at *;omega
    simp (disch:=omega) only [zA,zB,zC,zD,zF,zG,zH,↓reduceIte,v0]
    refine FZ.use (width_c (hv.pre hp02) hl) ?_
    rw [if_neg hM0]
    simp (disch:=omega) only [zA,zB,zC,zD,zF,zG,zH,↓reduceIte,v0]
    refine FZ.mono (preduce_c F hb2 hbn hm hM hn (Nat.le_refl n) (List.length_pos_iff.2 hM0)) ?_
    rintro piv H4 ⟨bs',M',P,hm4,hr4,hl4,hs4,ha4,hf4,hsub4,hlen4⟩
    have v4:=hm4.var
    have hbl:bs'.length=bs.length:=by have:=hm4.len;have:=hm.len;omega
    rw [hbl] at v4
    have hpl:qbc .lenS [piv]=some (nv P.length):=by have:=ha4.row.len;simpa using this
    have hPl:=hr4.len
    have hbm:=hm.len
    have hPb:P.length≤bs.length:=by omega
    simp (disch:=omega) only [zA,zB,zC,zD,zF,zG,zH,↓reduceIte,v4,hpl,qf8,hPb]
    have hres:=preduce_rowsLo hm4 (k:=P.length) (n0:=H.length) hPl (by have:=hnew sb (by simp);simp at this;omega) (fun x hx=>by have:=hnew x (by simp [hsub4 x hx]);simp at this;omega)
    rw [hbl,reduced_eq hl hr4 hs4] at hres
    refine⟨fun x hx=>?_,hres⟩
    have hxn:x∉mb :: sb :: bs:=fun hx2=>by have:=hnew x hx2;simp at this;omega
    rw [hf4 x (by have:=hp02.len;omega) hxn,hp02 x hx]
theorem qhx (Q:FQ α cd p e q blk) {v:Value} {n:Nat} {M:List (List α)} (hv:RowR H v (evr cd M)) (hl:∀ x∈M,x.length=n) (hM:M.length≤1000) (hn:n≤1000) (hn0:0<n) :
    FN Tryz.prog 112 [nv q,nv n,v] H (fun r H'=>Pre H H'∧∃ w,r=.tuple [codv q n w,nv 0].toArray∧Lw.RowLo H.length H' w (evr cd (qbk M))):=by
  refine g112_of ?_
  unfold g112
  simp (disch:=omega) only [zA,zB,zC,zD,zF,zG,zH,↓reduceIte]
  refine FZ.use (Q.make _) ?_
  have s3:=qbs (H:=H++[.cells [nv 0,nv 0,.slice none 0 0] 29 none false,blk,.cells [nv 0,nv 0,.slice none 0 0] 76 none false]) (bl:=H.length+2) (x:=nv p) (y:=nv e) (z:=.slice (some ⟨H.length+1,0,none⟩) e e) (c0:=nv 0) (c1:=nv 0) (c2:=.slice none 0 0) (e:=76) (op:=none) rfl rfl rfl
  have e3:(H++[.cells [nv 0,nv 0,.slice none 0 0] 29 none false,blk,.cells [nv 0,nv 0,.slice none 0 0] 76 none false]).set (H.length+2) (.cells [nv p,nv e,.slice (some ⟨H.length+1,0,none⟩) e e] 76 none false)=H++[.cells [nv 0,nv 0,.slice none 0 0] 29 none false,blk,fbx p e (H.length+1) e]:=by
    rw [List.set_append_right _ _ (by omega)];simp
  rw [e3] at s3
  simp (disch:=omega) only [zA,zB,zC,zD,zF,zG,zH,↓reduceIte,s3]
  have hp1:=Pre.new H [.cells [nv 0,nv 0,.slice none 0 0] 29 none false,blk,fbx p e (H.length+1) e]
  refine FZ.mono (reduce_lo (Q.ok (H.length+1)) (by simp) (hv.pre hp1) hl hM hn hn0) ?_
  rintro w H5 ⟨hp5,hw⟩
  have hc5:H5[H.length]? = some (.cells [nv 0,nv 0,.slice none 0 0] 29 none false):=hp5.get (by simp)
  have s5:=qbs (H:=H5) (bl:=H.length) (x:=nv q) (y:=nv n) (z:=w) (c0:=nv 0) (c1:=nv 0) (c2:=.slice none 0 0) (e:=29) (op:=none) rfl rfl hw.one
  have hlt:=qbx hc5
  have g5:(H5.set H.length (.cells [nv q,nv n,w] 29 none false))[H.length]? = some (.cells [nv q,nv n,w] 29 none false):=List.getElem?_set_self hlt
  simp (disch:=(first|omega|(simp only [qbj]<;>omega)|(simp only [qbg];done)|rfl)) only [zA,zB,zC,zD,zF,zG,zH,Nat.reduceEqDiff,Nat.reduceLT,Nat.reduceLeDiff,↓reduceIte,hw.fill,hc5,s5,g5]
  refine⟨(hp1.trans hp5).set (Nat.le_refl _) _,w,rfl,?_⟩
  exact (hw.setLow (by simp)).mono (by simp)
theorem ext1_c (F:FOK α cd p e b c q blk) {v:Value} {fb n:Nat} {xs:List α} (hb:H[b]? = some blk) (hf:H[fb]? = some (fbx p e b c)) (hv:Row H v (evs cd xs)) (hl:xs.length=n) (hn:n≤1000) (hn0:0<n) :
    FN Tryz.prog 114 [v,.pointer (some ⟨fb,0,none⟩)] H (fun r H'=>Pre H H'∧Row H' r (evs cd (lext n xs))):=by
  refine g114_of ?_
  unfold g114
  obtain⟨vl,vi,vd,_⟩:=hv.all Fl.zero
  simp (disch:=omega) only [zA,zB,zC,zD,zF,zG,zH,↓reduceIte,vl]
  refine loopV2.nat n (fun k l i H'=>i=nv k∧H'=H∧l=nv (cd (Fl.neg (vsum k (toV xs))))) ⟨rfl,rfl,?_⟩ ?_ ?_
  · rw [show Fl.neg (vsum 0 (toV xs))=(Fl.zero:α) from qrm,F.zero]
  · rintro k l i H hk ⟨rfl,rfl,rfl⟩ J hJ
    have hk':k<xs.length:=by omega
    simp (disch:=omega) only [zA,zB,zC,zD,zF,zG,zH,↓reduceIte,vi,vd,hk',hf]
    refine FZ.use (F.sub _ _ _ hb) ?_
    simp (disch:=omega) only [zA,zB,zC,zD,zF,zG,zH,↓reduceIte]
    refine hJ _ _ _ ⟨rfl,rfl,?_⟩
    rw [show vsum (k+1) (toV xs)=Fl.add (vsum k (toV xs)) (xs.getD k Fl.zero) from rfl,neg_add']
  · rintro l i H ⟨rfl,rfl,rfl⟩ J
    simp (disch:=omega) only [zA,zB,zC,zD,zF,zG,zH,↓reduceIte,hl]
    have hcl:(evs cd xs).length=n:=by rw [List.length_map,hl]
    refine FZ.mono (clone_c hv (fun h=>by rw [h] at hcl;simp at hcl;omega) (by simp [one]) (by omega)) ?_
    rintro w H3 ⟨hp3,hw⟩
    obtain⟨out',H5,e1,ho',hp',_⟩:=hw.acc.app1 (by_:=8) hp3.len (u:=nv (cd (Fl.neg (vsum n (toV xs))))) rfl (by omega) (by omega) (e2:=3)
    simp (disch:=(first|omega|(simp only [qbj]<;>omega)|(simp only [qbg];done)|rfl)) only [zA,zB,zC,zD,zF,zG,zH,Nat.reduceEqDiff,Nat.reduceLT,Nat.reduceLeDiff,↓reduceIte,e1]
    refine⟨hp' hp3,?_⟩
    have:=ho'.row
    simpa [lext] using this
theorem skip_list {n i:Nat} {x:List α} (hl:x.length=n) (hi:i<n):x.eraseIdx i=pick (n-1) (qc0 i) x:=by
  refine List.ext_getElem (by rw [List.length_eraseIdx_of_lt (by omega),qck,hl]) fun j h1 h2=>?_
  rw [qck] at h2
  rw [List.getElem_eraseIdx]
  simp only [pick,List.getElem_map,List.getElem_range,qc0]
  split
  · rename_i hj
    rw [List.getD_eq_getElem?_getD,List.getElem?_eq_getElem (by omega)];rfl
  · rename_i hj
    rw [List.getD_eq_getElem?_getD,List.getElem?_eq_getElem (by omega)];rfl
theorem without1_c {v:Value} {ib n i:Nat} {xs:List α} (hi0:H[ib]? = some (.cells [nv i] 3 none false)) (hv:Row H v (evs cd xs)) (hl:xs.length=n) (hn:n≤1000) (hi:i<n) :
    FN Tryz.prog 177 [v,.pointer (some ⟨ib,0,none⟩)] H (fun r H'=>Pre H H'∧Row H' r (evs cd (pick (n-1) (qc0 i) xs))):=by
  refine g177_of ?_
  unfold g177
  simp (disch:=omega) only [zA,zB,zC,zD,zF,zG,zH,↓reduceIte,hi0]
  have hcl:(evs cd xs).length=n:=by rw [List.length_map,hl]
  refine FZ.mono (clone_c hv (fun h=>by rw [h] at hcl;simp at hcl;omega) (by simp [one]) (by omega)) ?_
  rintro w H1 ⟨hp1,hw⟩
  have hi1:=hp1.get hi0
  simp (disch:=omega) only [zA,zB,zC,zD,zF,zG,zH,↓reduceIte,hi1]
  refine FZ.mono (delete_c hw (i:=i) (by omega) (by simp [one]) (by omega)) ?_
  rintro r H2 ⟨hf,hlen,hr,_⟩
  refine⟨fun x hx=>(hf x hx).trans (hp1 x hx),?_⟩
  have:=hr.1
  rw [←skip_list hl hi]
  have e:(evs cd xs).eraseIdx i=evs cd (xs.eraseIdx i):=by
    rw [List.eraseIdx_eq_take_drop_succ,List.eraseIdx_eq_take_drop_succ];simp
  rwa [e] at this
end
end Go.Sim

namespace Go.Sim
open Go Go.Proofs
section
variable {α:Type} [Fl α] [DecidableEq α] {cd:α→Nat} {p e b c q:Nat} {blk:AB} {H:AH}
theorem qkd {G:List (List α)} (k:Nat):(evr cd G).getD k []=evs cd (G.getD k []):=by
  rw [show ([]:List Value)=evs cd [] from rfl,qds]
theorem qjz {v:Value} {G:List (List α)} {F:Nat} {cap:Array Value} {T:List α→List α} (hv:RowR H v (evr cd G)) (hn:G.length≤100000)
    (hF:∀ x∈G,∀ (w:Value) (H1:AH),Pre H H1→Row H1 w (evs cd x)→FN Tryz.prog F (w :: cap.toList) H1 (fun r H2=>Pre H1 H2∧Row H2 r (evs cd (T x)))) :
    FN Tryz.prog 113 [v,.func (.func F) #[] cap] H (fun r H'=>Pre H H'∧RowR H' r (evr cd (G.map T))):=by
  refine (each_c (Ts:=evr cd (G.map T)) hv (by simp) (by simpa using hn) (fun t ht=>?_) fun k w H1 hk hp hw=>?_).mono fun r H' h=>⟨h.1,h.2.rowR⟩
  · obtain⟨x,_,rfl⟩:=List.mem_map.1 ht;exact qb3 _
  · have hk':k<G.length:=by simpa using hk
    rw [qkd] at hw
    have e1:(evr cd (G.map T)).getD k []=evs cd (T (G.getD k [])):=by
      rw [qkd]
      simp [List.getD_eq_getElem?_getD,List.getElem?_eq_getElem hk']
    rw [e1]
    exact hF _ (getD_mem hk') w H1 hp hw
theorem qjt {g:Nat} {x:Value}:qbc (.fn g 0 1) [x]=some (.func (.func g) #[] #[x]):=rfl
theorem xp_fn2 {g:Nat} {x y:Value}:qbc (.fn g 0 2) [x,y]=some (.func (.func g) #[] #[x,y]):=rfl
theorem xp_fn4 {g:Nat} {x y z u:Value}:qbc (.fn g 0 4) [x,y,z,u]=some (.func (.func g) #[] #[x,y,z,u]):=rfl
theorem without_c {i:Nat}:FN Tryz.prog 118 [nv i] H (fun r H'=>r=.func (.func 177) #[] #[.pointer (some ⟨H.length,0,none⟩)]∧H'=H++[.cells [nv i] 3 none false]):=by
  refine g118_of ?_
  unfold g118
  simp (disch:=omega) only [zA,zB,zC,zD,zF,zG,zH,↓reduceIte,qjt]
theorem coord_c {v:Value} {n i:Nat} (h:i<n) (h2:2≤n):FN Tryz.prog 117 [codv q n v,nv i] H (fun r H'=>r=.bool true∧Pre H H'):=by
  refine g117_of ?_
  unfold g117
  have g0:(H++[.cells (qbq (codv q n v)) 29 none false])[H.length]? = some (.cells [nv q,nv n,v] 29 none false):=by simp [qbq]
  simp (disch:=omega) only [zA,zB,zC,zD,zF,zG,zH,↓reduceIte,g0,h,h2]
  exact Pre.new _ _
def RetC (cd:α→Nat) (q n:Nat) (G:List (List α)) (H:AH) (r:Value) (H':AH):Prop:=Pre H H'∧∃ w,r=.tuple [codv q n w,nv 0].toArray∧Lw.RowLo H.length H' w (evr cd G)
def RetG (cd:α→Nat) (q n:Nat) (G:List (List α)) (H:AH) (r:Value) (H':AH):Prop:=Pre H H'∧∃ w,r=gotv q n w 0∧Lw.RowLo H.length H' w (evr cd G)
theorem extend_c (Q:FQ α cd p e q blk) {v:Value} {n:Nat} {G:List (List α)} (hv:RowR H v (evr cd G)) (hl:∀ x∈G,x.length=n) (hG:G.length≤400) (hn:n<24) (hn0:0<n) :
    FN Tryz.prog 65 [codv q n v] H (RetC cd q (n+1) (qbk (G.map (lext n))) H):=by
  refine g65_of ?_
  unfold g65
  have ho:=hv.one'
  have hn':¬24≤n:=by omega
  simp (disch:=omega) only [zA,zB,zC,zD,zF,zG,zH,↓reduceIte,hn']
  refine FZ.use (Q.make _) ?_
  have s3:=qbs (H:=H++[.cells [nv q,nv n,v] 29 none false,.cells [nv 0,nv 0,.slice none 0 0] 29 none false,blk,.cells [nv 0,nv 0,.slice none 0 0] 76 none false]) (bl:=H.length+3) (x:=nv p) (y:=nv e) (z:=.slice (some ⟨H.length+2,0,none⟩) e e) (c0:=nv 0) (c1:=nv 0) (c2:=.slice none 0 0) (e:=76) (op:=none) rfl rfl rfl
  have e3:(H++[.cells [nv q,nv n,v] 29 none false,.cells [nv 0,nv 0,.slice none 0 0] 29 none false,blk,.cells [nv 0,nv 0,.slice none 0 0] 76 none false]).set (H.length+3) (.cells [nv p,nv e,.slice (some ⟨H.length+2,0,none⟩) e e] 76 none false)=H++[.cells [nv q,nv n,v] 29 none false,.cells [nv 0,nv 0,.slice none 0 0] 29 none false,blk,fbx p e (H.length+2) e]:=by
    rw [List.set_append_right _ _ (by omega)];simp
  rw [e3] at s3
  simp (disch:=omega) only [zA,zB,zC,zD,zF,zG,zH,↓reduceIte,s3,qjt]
  have hX:=Pre.new H [.cells [nv q,nv n,v] 29 none false,.cells [nv 0,nv 0,.slice none 0 0] 29 none false,blk,fbx p e (H.length+2) e]
  have hbk:(H++[.cells [nv q,nv n,v] 29 none false,.cells [nv 0,nv 0,.slice none 0 0] 29 none false,blk,fbx p e (H.length+2) e])[H.length+2]? = some blk:=by simp
  have hfk:(H++[.cells [nv q,nv n,v] 29 none false,.cells [nv 0,nv 0,.slice none 0 0] 29 none false,blk,fbx p e (H.length+2) e])[H.length+3]? = some (fbx p e (H.length+2) e):=by simp
  refine FZ.mono (qjz (T:=lext n) (hv.pre hX) (by omega) (fun x hx w H1 hp hw=>?_)) ?_
  · exact ext1_c (Q.ok (H.length+2)) (hp.get hbk) (hp.get hfk) hw (hl x hx) (by omega) hn0
  rintro r H8 ⟨hp8,hr⟩
  have hc8:H8[H.length]? = some (.cells [nv q,nv n,v] 29 none false):=hp8.get (by simp)
  simp (disch:=omega) only [zA,zB,zC,zD,zF,zG,zH,↓reduceIte,hc8]
  refine FZ.mono (qhx Q hr ((LM.ext n).width hl) (by rw [List.length_map];omega) (by omega) (by omega)) ?_
  rintro _ H9 ⟨hp9,w,rfl,hw⟩
  have hp09:=hp8.trans hp9
  have hc9:H9[H.length+1]? = some (.cells [nv 0,nv 0,.slice none 0 0] 29 none false):=hp09.get (by simp)
  have s9:=qbs (H:=H9) (bl:=H.length+1) (x:=nv q) (y:=nv (n+1)) (z:=w) (c0:=nv 0) (c1:=nv 0) (c2:=.slice none 0 0) (e:=29) (op:=none) rfl rfl hw.one
  have g9:(H9.set (H.length+1) (.cells [nv q,nv (n+1),w] 29 none false))[H.length+1]? = some (.cells [nv q,nv (n+1),w] 29 none false):=List.getElem?_set_self (qbx hc9)
  simp (disch:=omega) only [zA,zB,zC,zD,zF,zG,zH,↓reduceIte,hc9,s9,g9]
  have hl8:=hp8.len
  simp only [List.length_append,List.length_cons,List.length_nil] at hl8
  exact⟨(hX.trans hp09).set (by omega) _,w,rfl,(hw.setLow (by omega)).mono (by omega)⟩
theorem puncture_c (Q:FQ α cd p e q blk) {v:Value} {n i:Nat} {G:List (List α)} (hv:RowR H v (evr cd G)) (hl:∀ x∈G,x.length=n) (hG:G.length≤400) (hn:n≤1000) (hn2:2≤n) (hi:i<n) :
    FN Tryz.prog 68 [codv q n v,nv i] H (RetC cd q (n-1) (qbk (G.map (pick (n-1) (qc0 i)))) H):=by
  refine g68_of ?_
  unfold g68
  have ho:=hv.one'
  simp (disch:=omega) only [zA,zB,zC,zD,zF,zG,zH,↓reduceIte]
  refine FZ.mono (coord_c hi hn2) ?_
  rintro _ H3 ⟨rfl,hp3⟩
  have hX:=(Pre.new H [.cells [nv q,nv n,v] 29 none false,.cells [nv 0,nv 0,.slice none 0 0] 29 none false]).trans hp3
  have hc3:H3[H.length]? = some (.cells [nv q,nv n,v] 29 none false):=hp3.get (by simp)
  have hn1:1≤n:=by omega
  simp (disch:=omega) only [zA,zB,zC,zD,zF,zG,zH,↓reduceIte,hc3,hn1]
  refine FZ.use without_c ?_
  have h4:=Pre.new H3 [.cells [nv i] 3 none false]
  have hc4:=h4.get hc3
  simp (disch:=omega) only [zA,zB,zC,zD,zF,zG,zH,↓reduceIte,hc4]
  have hik:(H3++[.cells [nv i] 3 none false])[H3.length]? = some (.cells [nv i] 3 none false):=by simp
  have hX4:=hX.trans h4
  refine FZ.mono (qjz (T:=pick (n-1) (qc0 i)) (hv.pre hX4) (by omega) (fun x hx w H1 hp hw=>?_)) ?_
  · exact without1_c (hp.get hik) hw (hl x hx) (by omega) hi
  rintro r H8 ⟨hp8,hr⟩
  have hc8:=hp8.get hc4
  simp (disch:=omega) only [zA,zB,zC,zD,zF,zG,zH,Nat.reduceEqDiff,Nat.reduceLT,Nat.reduceLeDiff,↓reduceIte,hc8]
  refine FZ.mono (qhx Q hr ((LM.pick n (n-1) (qc0 i)).width hl) (by rw [List.length_map];omega) (by omega) (by omega)) ?_
  rintro _ H9 ⟨hp9,w,rfl,hw⟩
  have hp09:=hp3.trans (h4.trans (hp8.trans hp9))
  have hc9:H9[H.length+1]? = some (.cells [nv 0,nv 0,.slice none 0 0] 29 none false):=hp09.get (by simp)
  have s9:=qbs (H:=H9) (bl:=H.length+1) (x:=nv q) (y:=nv (n-1)) (z:=w) (c0:=nv 0) (c1:=nv 0) (c2:=.slice none 0 0) (e:=29) (op:=none) rfl rfl hw.one
  have g9:(H9.set (H.length+1) (.cells [nv q,nv (n-1),w] 29 none false))[H.length+1]? = some (.cells [nv q,nv (n-1),w] 29 none false):=List.getElem?_set_self (qbx hc9)
  simp (disch:=omega) only [zA,zB,zC,zD,zF,zG,zH,↓reduceIte,hc9,s9,g9]
  have hl3:=hp3.len
  have hl8:=(h4.trans hp8).len
  simp only [List.length_append,List.length_cons,List.length_nil] at hl3
  exact⟨((Pre.new H _).trans hp09).set (by omega) _,w,rfl,(hw.setLow (by omega)).mono (by omega)⟩
end
end Go.Sim

namespace Go.Sim
open Go Go.Proofs
section
variable {α:Type} [Fl α] [DecidableEq α] {cd:α→Nat} {p e b c q:Nat} {blk:AB} {H:AH}
theorem RowR.fill {H:AH} {v:Value} {css:List (List Value)} (h:RowR H v css):∀ (c:List Value) (off:Nat) (pl:List (Nat×Nat)) (vs:List Value),off<c.length→qbr c ((off,1) :: pl) (v :: vs)=qbr (c.set off v) pl vs:=by obtain⟨_,h,_⟩:=h;exact h.1.fill
theorem pick_left {n m:Nat} {x:List α} (hl:x.length=n):pick (n+m) (fun j=>j) x=x++List.replicate m Fl.zero:=by
  refine List.ext_getElem (by rw [qck];simp [hl]) fun j h1 h2=>?_
  rw [qck] at h1
  simp only [pick,List.getElem_map,List.getElem_range]
  rw [List.getD_eq_getElem?_getD]
  by_cases hj:j<n
  · rw [List.getElem?_eq_getElem (by omega),List.getElem_append_left (by omega)];rfl
  · rw [List.getElem?_eq_none (by omega),List.getElem_append_right (by omega)];simp
theorem qjg {n m:Nat} {x:List α} (hl:x.length=m):pick (n+m) (fun j=>if j<n then m else j-n) x=List.replicate n Fl.zero++x:=by
  refine List.ext_getElem (by rw [qck];simp [hl]) fun j h1 h2=>?_
  rw [qck] at h1
  simp only [pick,List.getElem_map,List.getElem_range]
  rw [List.getD_eq_getElem?_getD]
  by_cases hj:j<n
  · rw [if_pos hj,List.getElem?_eq_none (by omega),List.getElem_append_left (by simpa using hj)];simp
  · rw [if_neg hj,List.getElem?_eq_getElem (by omega),List.getElem_append_right (by simp;omega)];simp
theorem qjf {n:Nat} {op:Option Nat} {r:Bool} {bl:Nat} {e:TypeId} (h:H[bl]? = some (.cells ((List.replicate n 0).map nv) e op r)):RowX H (.slice (some ⟨bl,0,none⟩) n n) ((List.replicate n 0).map nv):=by
  have:=RowX.of_take (k:=n) (c:=n) h (by simp) (Nat.le_refl _)
  rwa [List.take_of_length_le (by simp)] at this
theorem qf4 (F:FOK α cd p e b c q blk) (n:Nat):(List.replicate n 0).map nv=evs cd (List.replicate n (Fl.zero:α)):=by simp [evs,F.zero]
theorem qh2 (xs:List α):(evs cd xs).all one=true:=by simp [one]
theorem cat2_c {v w:Value} {xs ys:List Value} {bl:Nat} {e:TypeId} {op:Option Nat} (hb:H[bl]? = some (.cells [v,w] e op false)) (hv:RowX H v xs) (hw:RowX H w ys) (h1:xs.all one=true) (h2:ys.all one=true) (hl:xs.length+ys.length≤1000000) :
    FN Tryz.prog 122 [.slice (some ⟨bl,0,none⟩) 2 2] H (fun r H'=>Pre H H'∧Acc H H' r (xs++ys) 3):=by
  have:=concat_c (H:=H) (v:=.slice (some ⟨bl,0,none⟩) 2 2) (vs:=[v,w]) (uss:=[xs,ys]) (Row.of hb rfl (Nat.le_refl _)) rfl (fun k hk=>?_) (by simp only [List.mem_cons,List.not_mem_nil,or_false];rintro us (rfl|rfl)<;>assumption) (by simpa using hl) (by simp)
  · simpa using this
  · simp at hk
    rcases k with _|_|k
    · exact hv
    · exact hw
    · omega
theorem qht {v:Value} {xs:List α} {n:Nat} (hv:Row H v (evs cd xs)) (hl:xs.length=n) (hn0:0<n):RowX H v (evs cd xs):=hv.x fun h=>by have h2:=congrArg List.length h;rw [List.length_map,hl] at h2;simp at h2;omega
theorem sum1_c (F:FOK α cd p e b c q blk) {v x0 x2:Value} {bb n m:Nat} {et:TypeId} {op:Option Nat} {ro:Bool} {xs:List α} (hbb:H[bb]? = some (.cells [x0,nv m,x2] et op ro)) (hv:Row H v (evs cd xs)) (hl:xs.length=n) (hn:n≤1000) (hm:m≤1000) (hn0:0<n) :
    FN Tryz.prog 121 [v,.pointer (some ⟨bb,0,none⟩)] H (fun r H'=>Pre H H'∧Row H' r (evs cd (pick (n+m) (fun j=>j) xs))):=by
  refine g121_of ?_
  unfold g121
  have hmk:8*m≤281474976710656:=by omega
  simp (disch:=(first|omega|(simp only [qbj]<;>omega)|(simp only [qbg];done)|rfl)) only [zA,zB,zC,zD,zF,zG,zH,Nat.reduceEqDiff,Nat.reduceLT,Nat.reduceLeDiff,↓reduceIte,hbb,hmk,qc8,hv.fill]
  have hp:=Pre.new H [.cells ((List.replicate m 0).map nv) 3 none false,.cells [v,.slice (some ⟨H.length,0,none⟩) m m] 31 none false]
  have hz0:(H++[.cells ((List.replicate m 0).map nv) 3 none false,.cells [v,.slice (some ⟨H.length,0,none⟩) m m] 31 none false])[H.length]? = some (.cells ((List.replicate m 0).map nv) 3 none false):=by simp
  have hz1:(H++[.cells ((List.replicate m 0).map nv) 3 none false,.cells [v,.slice (some ⟨H.length,0,none⟩) m m] 31 none false])[H.length+1]? = some (.cells [v,.slice (some ⟨H.length,0,none⟩) m m] 31 none false):=by simp
  have hcl:(evs cd xs).length=n:=by rw [List.length_map,hl]
  refine FZ.mono (cat2_c (xs:=evs cd xs) (ys:=(List.replicate m 0).map nv) hz1 (qht (hv.pre hp) hl hn0) (qjf hz0) (qh2 _) (by simp [one]) (by simp;omega)) ?_
  rintro r H3 ⟨hp3,hr⟩
  have h3:=hr.row
  rw [qf4 F,←List.map_append,←pick_left hl] at h3
  exact⟨hp.trans hp3,h3⟩
theorem sum2_c (F:FOK α cd p e b c q blk) {v x0 x2:Value} {bb n m:Nat} {et:TypeId} {op:Option Nat} {ro:Bool} {xs:List α} (hbb:H[bb]? = some (.cells [x0,nv n,x2] et op ro)) (hv:Row H v (evs cd xs)) (hl:xs.length=m) (hn:n≤1000) (hm:m≤1000) (hm0:0<m) :
    FN Tryz.prog 123 [v,.pointer (some ⟨bb,0,none⟩)] H (fun r H'=>Pre H H'∧Row H' r (evs cd (pick (n+m) (fun j=>if j<n then m else j-n) xs))):=by
  refine g123_of ?_
  unfold g123
  have hmk:8*n≤281474976710656:=by omega
  simp (disch:=(first|omega|(simp only [qbj]<;>omega)|(simp only [qbg];done)|rfl)) only [zA,zB,zC,zD,zF,zG,zH,Nat.reduceEqDiff,Nat.reduceLT,Nat.reduceLeDiff,↓reduceIte,hbb,hmk,qc8,hv.fill]
  have hp:=Pre.new H [.cells ((List.replicate n 0).map nv) 3 none false,.cells [.slice (some ⟨H.length,0,none⟩) n n,v] 31 none false]
  have hz0:(H++[.cells ((List.replicate n 0).map nv) 3 none false,.cells [.slice (some ⟨H.length,0,none⟩) n n,v] 31 none false])[H.length]? = some (.cells ((List.replicate n 0).map nv) 3 none false):=by simp
  have hz1:(H++[.cells ((List.replicate n 0).map nv) 3 none false,.cells [.slice (some ⟨H.length,0,none⟩) n n,v] 31 none false])[H.length+1]? = some (.cells [.slice (some ⟨H.length,0,none⟩) n n,v] 31 none false):=by simp
  have hcl:(evs cd xs).length=m:=by rw [List.length_map,hl]
  refine FZ.mono (cat2_c (xs:=(List.replicate n 0).map nv) (ys:=evs cd xs) hz1 (qjf hz0) (qht (hv.pre hp) hl hm0) (by simp [one]) (qh2 _) (by simp;omega)) ?_
  rintro r H3 ⟨hp3,hr⟩
  have h3:=hr.row
  rw [qf4 F,←List.map_append,←qjg hl] at h3
  exact⟨hp.trans hp3,h3⟩
theorem all2_c {v w:Value} {A B:List (List α)} {bl:Nat} {et:TypeId} {op:Option Nat} (hb:H[bl]? = some (.cells [v,w] et op false)) (hv:RowR H v (evr cd A)) (hw:RowR H w (evr cd B)) (hA:A.length≤10000) (hB:B.length≤10000) :
    FN Tryz.prog 124 [.slice (some ⟨bl,0,none⟩) 2 2] H (fun r H'=>Pre H H'∧RowR H' r (evr cd (A++B))):=by
  refine g124_of ?_
  unfold g124
  simp (disch:=omega) only [zA,zB,zC,zD,zF,zG,zH,↓reduceIte]
  obtain⟨vs,hvs,hv2⟩:=hv
  obtain⟨ws,hws,hw2⟩:=hw
  have hl1:vs.length=A.length:=by simpa using hv2.1
  have hl2:ws.length=B.length:=by simpa using hw2.1
  have one_of:∀ {us:List Value} {css:List (List Value)},Rws H us css→us.all one=true:=fun h=>by
    rw [List.all_eq_true]
    intro x hx
    obtain⟨k,hk,rfl⟩:=List.mem_iff_getElem.1 hx
    have:=(h.2 k (by rw [←h.1];exact hk)).one
    simpa [List.getD_eq_getElem?_getD,List.getElem?_eq_getElem hk] using this
  refine FZ.mono (concatR_c (vs:=[v,w]) (uss:=[vs,ws]) (Row.of hb rfl (Nat.le_refl _)) rfl (fun k hk=>?_) ?_ (by simp;omega) (by simp)) ?_
  · simp at hk
    rcases k with _|_|k
    · exact hvs
    · exact hws
    · omega
  · simp only [List.mem_cons,List.not_mem_nil,or_false]
    rintro us (rfl|rfl)
    · exact one_of hv2
    · exact one_of hw2
  rintro r H4 ⟨hp4,hr⟩
  have hr':Acc H H4 r (vs++ws) 31:=by simpa using hr
  have hrows:Rws H4 (vs++ws) (evr cd (A++B)):=by
    refine⟨by simp [hl1,hl2],fun k hk=>?_⟩
    have h1:=hv2.1
    have h2:=hw2.1
    simp only [List.map_append,List.getD_eq_getElem?_getD]
    by_cases hkA:k<vs.length
    · rw [List.getElem?_append_left hkA,List.getElem?_append_left (by simp;omega)]
      have:=hv2.2 k (by simp;omega)
      simp only [List.getD_eq_getElem?_getD] at this
      exact this.pre hp4
    · have hk':k<A.length+B.length:=by simpa using hk
      rw [List.getElem?_append_right (by omega),List.getElem?_append_right (by simp;omega)]
      have:=hw2.2 (k-vs.length) (by simp;omega)
      simp only [List.getD_eq_getElem?_getD] at this
      rw [h1] at this ⊢
      exact this.pre hp4
  exact⟨hp4,_,hr'.x,hrows⟩
theorem msum_c (Q:FQ α cd p e q blk) {v w:Value} {n m:Nat} {A B:List (List α)} (hv:RowR H v (evr cd A)) (hw:RowR H w (evr cd B)) (hA:∀ x∈A,x.length=n) (hB:∀ x∈B,x.length=m) (hlA:A.length≤200) (hlB:B.length≤200) (hn0:0<n) (hm0:0<m) (hnm:n+m≤24) :
    FN Tryz.prog 71 [codv q n v,codv q m w] H (RetC cd q (n+m) (qbk (lsum n m A B)) H):=by
  refine g71_of ?_
  unfold g71
  have ho:=hv.one'
  have ho2:=hw.one'
  have hnm':¬24<n+m:=by omega
  simp (disch:=omega) only [zA,zB,zC,zD,zF,zG,zH,↓reduceIte,hnm',qjt]
  have hX:=Pre.new H [.cells [nv q,nv n,v] 29 none false,.cells [nv q,nv m,w] 29 none false,.cells [nv 0,nv 0,.slice none 0 0] 29 none false]
  have g0:(H++[.cells [nv q,nv n,v] 29 none false,.cells [nv q,nv m,w] 29 none false,.cells [nv 0,nv 0,.slice none 0 0] 29 none false])[H.length]? = some (.cells [nv q,nv n,v] 29 none false):=by simp
  have g1:(H++[.cells [nv q,nv n,v] 29 none false,.cells [nv q,nv m,w] 29 none false,.cells [nv 0,nv 0,.slice none 0 0] 29 none false])[H.length+1]? = some (.cells [nv q,nv m,w] 29 none false):=by simp
  have g2:(H++[.cells [nv q,nv n,v] 29 none false,.cells [nv q,nv m,w] 29 none false,.cells [nv 0,nv 0,.slice none 0 0] 29 none false])[H.length+2]? = some (.cells [nv 0,nv 0,.slice none 0 0] 29 none false):=by simp
  refine FZ.mono (qjz (T:=pick (n+m) fun j=>j) (hv.pre hX) (by omega) (fun x hx w H1 hp hw=>?_)) ?_
  · exact sum1_c (Q.ok 0) (hp.get g1) hw (hA x hx) (by omega) (by omega) hn0
  rintro r8 H8 ⟨hp8,hr8⟩
  have c0:=hp8.get g0
  have c1:=hp8.get g1
  simp (disch:=omega) only [zA,zB,zC,zD,zF,zG,zH,↓reduceIte,c1,qjt]
  refine FZ.mono (qjz (T:=pick (n+m) fun j=>if j<n then m else j-n) (hw.pre (hX.trans hp8)) (by omega) (fun x hx w H1 hp hw=>?_)) ?_
  · exact sum2_c (Q.ok 0) (hp.get c0) hw (hB x hx) (by omega) (by omega) hm0
  rintro r9 H9 ⟨hp9,hr9⟩
  have d0:=hp9.get c0
  have d1:=hp9.get c1
  have hr8':=hr8.pre hp9
  have f8:=hr8'.fill
  have f9:=hr9.fill
  simp (disch:=(first|omega|(simp only [qbj]<;>omega)|(simp only [qbg];done)|rfl)) only [zA,zB,zC,zD,zF,zG,zH,Nat.reduceEqDiff,Nat.reduceLT,Nat.reduceLeDiff,↓reduceIte,d0,d1,f8,f9]
  have hp10:=Pre.new H9 [.cells [r8,r9] 27 none false]
  refine FZ.mono (all2_c (et:=27) (op:=none) (bl:=H9.length) (v:=r8) (w:=r9) (by simp) (hr8'.pre hp10) (hr9.pre hp10) (by simp;omega) (by simp;omega)) ?_
  rintro r11 H11 ⟨hp11,hr11⟩
  have hp911:=hp10.trans hp11
  have e0:=hp911.get d0
  have e1:=hp911.get d1
  simp (disch:=omega) only [zA,zB,zC,zD,zF,zG,zH,↓reduceIte,e0,e1]
  have hwid:∀ x∈lsum n m A B,x.length=n+m:=by
    intro x hx
    rcases List.mem_append.1 hx with h|h
    · obtain⟨y,_,rfl⟩:=List.mem_map.1 h;exact qck _ _ _
    · obtain⟨y,_,rfl⟩:=List.mem_map.1 h;exact qck _ _ _
  refine FZ.mono (qhx Q hr11 hwid (by simp;omega) (by omega) (by omega)) ?_
  rintro _ H12 ⟨hp12,w12,rfl,hw12⟩
  have hpall:=hp8.trans (hp9.trans (hp911.trans hp12))
  have hc:=hpall.get g2
  have s9:=qbs (H:=H12) (bl:=H.length+2) (x:=nv q) (y:=nv (n+m)) (z:=w12) (c0:=nv 0) (c1:=nv 0) (c2:=.slice none 0 0) (e:=29) (op:=none) rfl rfl hw12.one
  have g9:(H12.set (H.length+2) (.cells [nv q,nv (n+m),w12] 29 none false))[H.length+2]? = some (.cells [nv q,nv (n+m),w12] 29 none false):=List.getElem?_set_self (qbx hc)
  simp (disch:=omega) only [zA,zB,zC,zD,zF,zG,zH,↓reduceIte,hc,s9,g9]
  have hl11:=(hp8.trans (hp9.trans hp911)).len
  simp only [List.length_append,List.length_cons,List.length_nil] at hl11
  exact⟨(hX.trans hpall).set (by omega) _,w12,rfl,(hw12.setLow (by omega)).mono (by omega)⟩
end
end Go.Sim

namespace Go.Sim
open Go Go.Proofs
section
variable {α:Type} [Fl α] [DecidableEq α] {cd:α→Nat} {p e b c q:Nat} {blk:AB} {H:AH}
def FnOk (cd:α→Nat) (G:List (List α)) (f:Vc α→α) (H:AH) (F:Nat) (cap:Array Value):Prop:=
  ∀ x∈G,∀ (w:Value) (H1:AH),Pre H H1→Row H1 w (evs cd x)→FN Tryz.prog F (w :: cap.toList) H1 (fun r H2=>r=nv (cd (f (toV x)))∧H2=H1)
theorem FnOk.pre {G:List (List α)} {f:Vc α→α} {F:Nat} {cap:Array Value} (h:FnOk cd G f H F cap) {H':AH} (hp:Pre H H'):FnOk cd G f H' F cap:=fun x hx w H1 h1 hw=>h x hx w H1 (hp.trans h1) hw
theorem test_c (hz:cd (Fl.zero:α)=0) (hinj:∀ x y,cd x=cd y→x=y) {G:List (List α)} {f:Vc α→α} {F vb:Nat} {cap:Array Value} {w:Value} {x:List α} (hf:FnOk cd G f H F cap) (hx:x∈G) (hvb:H[vb]? = some (.cells [.func (.func F) #[] cap] 50 none false)) (hw:Row H w (evs cd x)) :
    FN Tryz.prog 179 [w,.pointer (some ⟨vb,0,none⟩)] H (fun r H'=>r=.bool (decide (f (toV x)≠Fl.zero))∧H'=H):=by
  refine g179_of ?_
  unfold g179
  simp (disch:=omega) only [zA,zB,zC,zD,zF,zG,zH,↓reduceIte,hvb]
  refine FZ.use (hf x hx w H (Pre.refl _) hw) ?_
  by_cases h:f (toV x)=Fl.zero
  · have h0:cd (f (toV x))=0:=by rw [h,hz]
    simp (disch:=omega) only [zA,zB,zC,zD,zF,zG,zH,↓reduceIte,h0]
    simp [h]
  · have h0:¬cd (f (toV x))=0:=fun hh=>h (hinj _ _ (by rw [hh,hz]))
    simp (disch:=omega) only [zA,zB,zC,zD,zF,zG,zH,↓reduceIte,h0]
    simp [h]
theorem indexR_c (hz:cd (Fl.zero:α)=0) (hinj:∀ x y,cd x=cd y→x=y) {v:Value} {G:List (List α)} {f:Vc α→α} {F vb:Nat} {cap:Array Value} (hv:RowR H v (evr cd G)) (hG:G.length≤1000) (hf:FnOk cd G f H F cap) (hvb:H[vb]? = some (.cells [.func (.func F) #[] cap] 50 none false)) :
    FN Tryz.prog 140 [v,.func (.func 179) #[] #[.pointer (some ⟨vb,0,none⟩)]] H (fun r H'=>((r=.int .i64 (-1)∧G.findIdx? (fun r=>decide (f (toV r)≠Fl.zero))=none)∨∃ k,r=nv k∧k<G.length∧f (toV (G.getD k []))≠Fl.zero∧G.findIdx? (fun r=>decide (f (toV r)≠Fl.zero))=some k)∧H'=H):=by
  refine g140_of ?_
  unfold g140
  obtain⟨vs,hvs,hvl,hvr⟩:=hv.open
  obtain⟨vl,vi,vd,_⟩:=hvs.allV
  simp (disch:=omega) only [zA,zB,zC,zD,zF,zG,zH,↓reduceIte,vl,hvl]
  refine loopV1.nat G.length (fun k i H'=>i=nv k∧H'=H∧∀ j,j<k→f (toV (G.getD j []))=Fl.zero) ⟨rfl,rfl,fun j h=>absurd h (Nat.not_lt_zero _)⟩ ?_ ?_
  · rintro k i H hk ⟨rfl,rfl,hin⟩ J hJ
    have hk':k<vs.length:=by omega
    simp (disch:=omega) only [zA,zB,zC,zD,zF,zG,zH,↓reduceIte,vi,vd,hk,hk']
    refine FZ.use (test_c hz hinj hf (getD_mem hk) hvb (hvr k hk)) ?_
    by_cases h:f (toV (G.getD k []))=Fl.zero
    · have hb:(decide (f (toV (G.getD k []))≠Fl.zero))=false:=decide_eq_false (fun hn=>hn h)
      simp (disch:=omega) only [zA,zB,zC,zD,zF,zG,zH,↓reduceIte,hb]
      refine hJ _ _ ⟨rfl,rfl,fun j hj=>?_⟩
      by_cases hjk:j=k
      · rw [hjk];exact h
      · exact hin j (by omega)
    · have hb:(decide (f (toV (G.getD k []))≠Fl.zero))=true:=decide_eq_true h
      simp (disch:=omega) only [zA,zB,zC,zD,zF,zG,zH,↓reduceIte,hb]
      refine .inr ⟨k,rfl,hk,h,?_⟩
      rw [List.findIdx?_eq_some_iff_getElem]
      refine⟨hk,?_,fun j hj=>?_⟩
      · rw [qcb hk] at h;simpa using h
      · have:=hin j hj
        rw [qcb (by omega)] at this
        simpa using this
  · rintro i H ⟨rfl,rfl,hin⟩ J
    simp (disch:=omega) only [zA,zB,zC,zD,zF,zG,zH,↓reduceIte]
    refine .inl ?_
    rw [List.findIdx?_eq_none_iff]
    intro x hx
    obtain⟨k,hk,rfl⟩:=List.mem_iff_getElem.1 hx
    have:=hin k hk
    rw [qcb hk] at this
    simpa using this
theorem kill_c (F:FOK α cd p e b c q blk) {G:List (List α)} {f:Vc α→α} {F' fb vb ib pb n:Nat} {cap:Array Value} {w pv:Value} {x y:List α} (hb:H[b]? = some blk) (hf:FnOk cd G f H F' cap) (hx:x∈G) (hfb:H[fb]? = some (fbx p e b c)) (hvb:H[vb]? = some (.cells [.func (.func F') #[] cap] 50 none false))
    (hib:H[ib]? = some (.cells [nv (cd (Fl.inv (f (toV y))))] 3 none false)) (hpb:H[pb]? = some (.cells [pv] 31 none false)) (hw:Row H w (evs cd x)) (hpv:Row H pv (evs cd y)) (hl:x.length=n) (hly:y.length=n) (hn:n≤1000) (hn0:0<n) :
    FN Tryz.prog 182 [w,.pointer (some ⟨fb,0,none⟩),.pointer (some ⟨vb,0,none⟩),.pointer (some ⟨ib,0,none⟩),.pointer (some ⟨pb,0,none⟩)] H (fun r H'=>Pre H H'∧Row H' r (evs cd (qj9 f y x))):=by
  refine g182_of ?_
  unfold g182
  simp (disch:=omega) only [zA,zB,zC,zD,zF,zG,zH,↓reduceIte,hfb,hvb,hib]
  refine FZ.use (hf x hx w H (Pre.refl _) hw) ?_
  simp (disch:=omega) only [zA,zB,zC,zD,zF,zG,zH,↓reduceIte,hfb,hvb,hib]
  refine FZ.use (F.mul _ _ _ hb) ?_
  simp (disch:=omega) only [zA,zB,zC,zD,zF,zG,zH,↓reduceIte]
  have hcl:(evs cd x).length=n:=by rw [List.length_map,hl]
  refine FZ.mono (clone_c hw (fun h=>by rw [h] at hcl;simp at hcl;omega) (qh2 _) (by omega)) ?_
  rintro o H3 ⟨hp3,ho3⟩
  obtain⟨bo,hbo,rfl,op,hop,hgo⟩:=ho3
  rw [hcl]
  have hkl:(qj9 f y x).length=n:=by rw [lkill_len,hl]
  obtain⟨Z,hZ⟩:∃ Z,Z=qj9 f y x:=⟨_,rfl⟩
  have hZg:∀ k,k<n→Z.getD k Fl.zero=Fl.add (x.getD k Fl.zero) (Fl.neg (Fl.mul (Fl.mul (f (toV x)) (Fl.inv (f (toV y)))) (y.getD k Fl.zero))):=by
    intro k hk
    rw [hZ,←neg_mul']
    unfold qj9
    simp [List.getD_eq_getElem?_getD,show k<x.length by omega]
  rw [←hZ] at hkl ⊢
  have hpb3:=hp3.get hpb
  have hpv3:=(hpv.pre hp3).lenM
  simp (disch:=omega) only [zA,zB,zC,zD,zF,zG,zH,↓reduceIte,hpb3,hpv3,hly]
  refine loopV1.nat n (fun k i H'=>i=nv k∧Pre H H'∧H'[bo]? = some (.cells (evs cd (Z.take k++x.drop k)) 3 op false)) ⟨rfl,hp3,by simpa using hgo⟩ ?_ ?_
  · rintro k i H4 hk ⟨rfl,hp4,hg4⟩ J hJ
    have hfb4:=hp4.get hfb
    have hb4:=hp4.get hb
    have hky:k<y.length:=by omega
    obtain⟨_,yi,yd,_⟩:=(hpv.pre hp4).all Fl.zero
    have hlen:(Z.take k++x.drop k).length=n:=by simp;omega
    have hCk:=qj4 Fl.zero x Z k (by omega)
    have hpre:=qm1 Fl.zero x Z k (by omega) (by omega)
    have hro:Row H4 (.slice (some ⟨bo,0,none⟩) n n) (evs cd (Z.take k++x.drop k)):=Row.of hg4 (by rw [List.length_map,hlen]) (Nat.le_refl _)
    obtain⟨ol,oi,od,_⟩:=hro.all Fl.zero
    have hko:k<(Z.take k++x.drop k).length:=by omega
    have ptr:qfj (.slice (some ⟨bo,0,none⟩) n n) k=.pointer (some ⟨bo,k,none⟩):=by simp [qfj]
    have b1:qdq none H4[bo]? k=some (nv (cd (x.getD k Fl.zero))):=by
      have:=od k hko
      rw [ptr,hCk,qqk] at this
      exact this
    simp (disch:=omega) only [zA,zB,zC,zD,zF,zG,zH,↓reduceIte,hk,yi,yd,hky,hfb4,b1]
    refine FZ.use (F.mul _ _ _ hb4) ?_
    simp (disch:=omega) only [zA,zB,zC,zD,zF,zG,zH,↓reduceIte,hfb4,b1]
    refine FZ.use (F.sub _ _ _ hb4) ?_
    have st:=qq3 (k:=k) (v:=nv (cd (Fl.add (x.getD k Fl.zero) (Fl.neg (Fl.mul (Fl.mul (f (toV x)) (Fl.inv (f (toV y)))) (y.getD k Fl.zero)))))) hg4 (by rw [List.length_map];exact hko) rfl rfl
    simp (disch:=omega) only [zA,zB,zC,zD,zF,zG,zH,↓reduceIte,hk,st]
    have hset:(evs cd (Z.take k++x.drop k)).set k (nv (cd (Fl.add (x.getD k Fl.zero) (Fl.neg (Fl.mul (Fl.mul (f (toV x)) (Fl.inv (f (toV y)))) (y.getD k Fl.zero))))))=evs cd (Z.take (k+1)++x.drop (k+1)):=by
      rw [←hpre,hZg k hk];simp [evs,List.map_set]
    rw [hset]
    exact hJ _ _ ⟨rfl,hp4.set hbo _,List.getElem?_set_self (qbx hg4)⟩
  · rintro i H4 ⟨rfl,hp4,hg4⟩ J
    simp (disch:=omega) only [zA,zB,zC,zD,zF,zG,zH,↓reduceIte]
    rw [List.take_of_length_le (by omega),List.drop_of_length_le (by omega),List.append_nil] at hg4
    exact⟨hp4,Row.of hg4 (by rw [List.length_map,hkl]) (Nat.le_refl _)⟩
end
end Go.Sim

namespace Go.Sim
open Go Go.Proofs
section
variable {α:Type} [Fl α] [DecidableEq α] {cd:α→Nat} {p e b c q:Nat} {blk:AB} {H:AH}
theorem stB_func {H:AH} {c0 x:Value} {e:TypeId} {op:Option Nat} {bl:Nat} (h1:one x=true) (h2:qbq x=[x]):stB 1 H (some (.cells [c0] e op false)) bl 0 x=some (undef,H.set bl (.cells [x] e op false)):=by
  simp [stB,h2,h1,putL]
theorem Rws.one {vs:List Value} {css:List (List Value)} (h:Rws H vs css):vs.all Sim.one=true:=by
  rw [List.all_eq_true]
  intro x hx
  obtain⟨k,hk,rfl⟩:=List.mem_iff_getElem.1 hx
  have:=(h.2 k (by rw [←h.1];exact hk)).one
  simpa [List.getD_eq_getElem?_getD,List.getElem?_eq_getElem hk] using this
theorem kept_c (Q:FQ α cd p e q blk) {v:Value} {n F:Nat} {cap:Array Value} {G:List (List α)} {f:Vc α→α} (hv:RowR H v (evr cd G)) (hl:∀ x∈G,x.length=n) (hG:G.length≤400) (hn:n≤1000) (hn0:0<n) (hf:FnOk cd G f H F cap) :
    FN Tryz.prog 119 [nv q,v,.func (.func F) #[] cap] H (fun r H'=>Pre H H'∧RowR H' r (evr cd (qf0 f G))):=by
  refine g119_of ?_
  unfold g119
  have cf:qbq (.func (.func F) #[] cap)=[.func (.func F) #[] cap]:=rfl
  simp (disch:=omega) only [zA,zB,zC,zD,zF,zG,zH,↓reduceIte,cf]
  refine FZ.use (Q.make _) ?_
  have s3:=qbs (H:=H++[.cells [.func (.func F) #[] cap] 50 none false,blk,.cells [nv 0,nv 0,.slice none 0 0] 76 none false]) (bl:=H.length+2) (x:=nv p) (y:=nv e) (z:=.slice (some ⟨H.length+1,0,none⟩) e e) (c0:=nv 0) (c1:=nv 0) (c2:=.slice none 0 0) (e:=76) (op:=none) rfl rfl rfl
  have e3:(H++[.cells [.func (.func F) #[] cap] 50 none false,blk,.cells [nv 0,nv 0,.slice none 0 0] 76 none false]).set (H.length+2) (.cells [nv p,nv e,.slice (some ⟨H.length+1,0,none⟩) e e] 76 none false)=H++[.cells [.func (.func F) #[] cap] 50 none false,blk,fbx p e (H.length+1) e]:=by
    rw [List.set_append_right _ _ (by omega)];simp
  rw [e3] at s3
  simp (disch:=omega) only [zA,zB,zC,zD,zF,zG,zH,↓reduceIte,s3,qjt]
  have hX:=Pre.new H [.cells [.func (.func F) #[] cap] 50 none false,blk,fbx p e (H.length+1) e]
  obtain⟨HX,hHX⟩:∃ HX,HX=H++[.cells [.func (.func F) #[] cap] 50 none false,blk,fbx p e (H.length+1) e]:=⟨_,rfl⟩
  have g0:HX[H.length]? = some (.cells [.func (.func F) #[] cap] 50 none false):=by rw [hHX];simp
  have g1:HX[H.length+1]? = some blk:=by rw [hHX];simp
  have g2:HX[H.length+2]? = some (fbx p e (H.length+1) e):=by rw [hHX];simp
  have hXl:HX.length=H.length+3:=by rw [hHX];simp
  change Pre H (H++[.cells [.func (.func F) #[] cap] 50 none false,blk,fbx p e (H.length+1) e]) at hX
  rw [←hHX] at hX ⊢
  have Fq:=Q.ok (H.length+1)
  refine FZ.mono (indexR_c Fq.zero Fq.inj (hv.pre hX) (by omega) (hf.pre hX) g0) ?_
  rintro r HX ⟨h,rfl⟩
  rcases h with ⟨rfl,h⟩|⟨at_,rfl,hat,hne,hfi⟩
  · have e1:xbin .lss 0 (.int .i64 (-1)) (nv 0)=some (.bool true):=by rw [qh8,decide_eq_true];omega
    simp (disch:=omega) only [zA,zB,zC,zD,zF,zG,zH,↓reduceIte,e1]
    have ek:qf0 f G=G:=by unfold qf0;rw [h]
    rw [ek]
    exact⟨hX,hv.pre hX⟩
  · have ek:qf0 f G=(G.eraseIdx at_).map (qj9 f (G.getD at_ [])):=by unfold qf0;rw [hfi]
    rw [ek]
    have hvX:=hv.pre hX
    obtain⟨vs,hvs,hvr⟩:=hvX
    have hvl:=hvr.1
    rw [List.length_map] at hvl
    obtain⟨vl,vi,vd,vd2⟩:=hvs.1.allV
    have hak:at_<vs.length:=by omega
    have hrow:Row HX (vs.getD at_ undef) (evs cd (G.getD at_ [])):=by
      have:=hvr.2 at_ (by simpa using hat)
      rwa [qkd] at this
    have sp:=stB_func (H:=HX++[.cells [.slice none 0 0] 31 none false]) (bl:=HX.length) (c0:=.slice none 0 0) (e:=31) (op:=none) hrow.one hrow.cells
    have esp:(HX++[AB.cells [.slice none 0 0] 31 none false]).set HX.length (AB.cells [vs.getD at_ undef] 31 none false)=HX++[AB.cells [vs.getD at_ undef] 31 none false]:=qb2
    rw [esp] at sp
    have g0y:=fun Y=>qdr g0 Y
    have g2y:=fun Y=>qdr g2 Y
    simp (disch:=omega) only [zA,zB,zC,zD,zF,zG,zH,↓reduceIte,vi,vd,hak,sp,g2y,g0y]
    obtain⟨H8,hH8⟩:∃ H8,H8=HX++[.cells [vs.getD at_ undef] 31 none false,.cells [nv 0] 3 none false]:=⟨_,rfl⟩
    have h8:Pre HX H8:=by rw [hH8];exact Pre.new _ _
    have k0:=h8.get g0
    have k1:=h8.get g1
    have k2:=h8.get g2
    have k3:H8[HX.length]? = some (.cells [vs.getD at_ undef] 31 none false):=by rw [hH8];simp
    have k4:H8[HX.length+1]? = some (.cells [nv 0] 3 none false):=by rw [hH8];simp
    have k8:H8.length=HX.length+2:=by rw [hH8];simp
    rw [←hH8]
    refine FZ.use (hf _ (getD_mem hat) _ H8 (hX.trans h8) (hrow.pre h8)) ?_
    simp (disch:=omega) only [zA,zB,zC,zD,zF,zG,zH,↓reduceIte,k2]
    refine FZ.use (Fq.inv _ _ k1 hne) ?_
    have s8:=stB_func (H:=H8) (bl:=HX.length+1) (c0:=nv 0) (x:=nv (cd (Fl.inv (f (toV (G.getD at_ [])))))) (e:=3) (op:=none) rfl rfl
    simp (disch:=omega) only [zA,zB,zC,zD,zF,zG,zH,↓reduceIte,k4,s8]
    obtain⟨H9,hH9⟩:∃ H9,H9=H8.set (HX.length+1) (.cells [nv (cd (Fl.inv (f (toV (G.getD at_ [])))))] 3 none false):=⟨_,rfl⟩
    have h9:Pre HX H9:=by rw [hH9];exact h8.set (by omega) _
    have m0:=h9.get g0
    have m1:=h9.get g1
    have m2:=h9.get g2
    have m3:H9[HX.length]? = some (.cells [vs.getD at_ undef] 31 none false):=by rw [hH9,List.getElem?_set_ne (by omega)];exact k3
    have m4:H9[HX.length+1]? = some (.cells [nv (cd (Fl.inv (f (toV (G.getD at_ [])))))] 3 none false):=by rw [hH9];exact List.getElem?_set_self (by omega)
    have m9:H9.length=HX.length+2:=by rw [hH9,List.length_set];exact k8
    rw [←hH9]
    have hne0:vs≠[]:=fun h=>by rw [h] at hak;simp at hak
    refine FZ.mono (cloneR_c (hvs.pre h9) hne0 hvr.one (by omega)) ?_
    rintro w12 H12 ⟨hp12,ha12⟩
    have hat':at_<vs.length:=hak
    simp (disch:=omega) only [zA,zB,zC,zD,zF,zG,zH,↓reduceIte]
    refine FZ.mono (deleteR_c (ha12.own hne0) hak hvr.one (by omega)) ?_
    rintro w13 H13 ⟨bs,Y,op,hbs,hgs,rfl,hr13⟩
    have hkeep:∀ (x:Value) (cs:List Value),Row HX x cs→cs.all qg5=true→Row (H12.set bs (.cells Y 31 op false)) x cs:=fun x cs hx hc =>
      ((hx.pre h9).pre hp12).keep hc hgs hvr.isSl fun b' _ hne=>List.getElem?_set_ne (Ne.symm hne)
    have hP:Pre HX (H12.set bs (.cells Y 31 op false)):=(h9.trans hp12).set (by omega) _
    have hP9:Pre H9 (H12.set bs (.cells Y 31 op false)):=hp12.set hbs _
    have hrr:RowR (H12.set bs (.cells Y 31 op false)) w13 (evr cd (G.eraseIdx at_)):=by
      refine⟨_,hr13,?_,fun k hk=>?_⟩
      · rw [List.length_map,List.length_eraseIdx_of_lt hak,List.length_eraseIdx_of_lt hat,hvl]
      · rw [List.length_map,List.length_eraseIdx_of_lt hat] at hk
        rw [qkd]
        have hh:∀ j,j<G.length→Row HX (vs.getD j undef) (evs cd (G.getD j [])):=fun j hj=>by
          have:=hvr.2 j (by simpa using hj)
          rwa [qkd] at this
        simp only [List.getD_eq_getElem?_getD,List.getElem?_eraseIdx]
        split
        · have:=hkeep _ _ (hh k (by omega)) (qb3 _)
          simpa [List.getD_eq_getElem?_getD] using this
        · have:=hkeep _ _ (hh (k+1) (by omega)) (qb3 _)
          simpa [List.getD_eq_getElem?_getD] using this
    have hlp:(G.getD at_ []).length=n:=qb5 hl hat
    simp (disch:=omega) only [zA,zB,zC,zD,zF,zG,zH,↓reduceIte,xp_fn4]
    refine FZ.mono (qjz (T:=qj9 f (G.getD at_ [])) hrr (by rw [List.length_eraseIdx_of_lt hat];omega) (fun x hx w H1 hp hw=>?_)) ?_
    · have hpX:=hP.trans hp
      have hp9:=hP9.trans hp
      have hxm:=List.mem_of_mem_eraseIdx hx
      exact kill_c Fq (hp9.get m1) (hf.pre (hX.trans hpX)) hxm (hp9.get m2) (hp9.get m0) (hp9.get m4) (hp9.get m3) hw (hrow.pre hpX) (hl x hxm) hlp hn hn0
    · rintro r H14 ⟨hp14,hr14⟩
      exact⟨hX.trans (hP.trans hp14),hr14⟩
end
end Go.Sim

namespace Go.Sim
open Go Go.Proofs
section
variable {α:Type} [Fl α] [DecidableEq α] {cd:α→Nat} {p e b c q:Nat} {blk:AB} {H:AH}
theorem at1_c {w:Value} {x:List α} {ib i:Nat} (hib:H[ib]? = some (.cells [nv i] 3 none false)) (hw:Row H w (evs cd x)) (hi:i<x.length):FN Tryz.prog 120 [w,.pointer (some ⟨ib,0,none⟩)] H (fun r H'=>r=nv (cd (toV x i))∧H'=H):=by
  refine g120_of ?_
  unfold g120
  obtain⟨_,vi,vd,_⟩:=hw.all Fl.zero
  simp (disch:=omega) only [zA,zB,zC,zD,zF,zG,zH,↓reduceIte,hib,vi,vd,hi]
  rfl
theorem shorten_c (Q:FQ α cd p e q blk) {v:Value} {n i:Nat} {G:List (List α)} (hv:RowR H v (evr cd G)) (hl:∀ x∈G,x.length=n) (hG:G.length≤400) (hn:n≤1000) (hn2:2≤n) (hi:i<n) :
    FN Tryz.prog 70 [codv q n v,nv i] H (RetC cd q (n-1) (qbk ((qf0 (fun v=>v i) G).map (pick (n-1) (qc0 i)))) H):=by
  refine g70_of ?_
  unfold g70
  have ho:=hv.one'
  simp (disch:=omega) only [zA,zB,zC,zD,zF,zG,zH,↓reduceIte]
  refine FZ.mono (coord_c hi hn2) ?_
  rintro _ H4 ⟨rfl,hp4⟩
  have hX:=(Pre.new H [.cells [nv q,nv n,v] 29 none false,.cells [nv i] 3 none false,.cells [nv 0,nv 0,.slice none 0 0] 29 none false]).trans hp4
  have hc4:H4[H.length]? = some (.cells [nv q,nv n,v] 29 none false):=hp4.get (by simp)
  have hi4:H4[H.length+1]? = some (.cells [nv i] 3 none false):=hp4.get (by simp)
  have hn1:1≤n:=by omega
  simp (disch:=omega) only [zA,zB,zC,zD,zF,zG,zH,↓reduceIte,hc4,hi4,hn1,qjt]
  refine FZ.mono (kept_c Q (f:=fun v=>v i) (hv.pre hX) hl hG hn (by omega) (fun x hx w H1 hp hw=>?_)) ?_
  · exact at1_c (hp.get hi4) hw (by rw [hl x hx];exact hi)
  rintro r7 H7 ⟨hp7,hr7⟩
  have hc7:=hp7.get hc4
  have hi7:=hp7.get hi4
  simp (disch:=omega) only [zA,zB,zC,zD,zF,zG,zH,↓reduceIte,hc7,hi7,hn1]
  refine FZ.use without_c ?_
  have h8:=Pre.new H7 [.cells [nv i] 3 none false]
  have hc8:=h8.get hc7
  have hik:(H7++[.cells [nv i] 3 none false])[H7.length]? = some (.cells [nv i] 3 none false):=by simp
  simp (disch:=omega) only [zA,zB,zC,zD,zF,zG,zH,↓reduceIte,hc8]
  have hlk:=qfz (f:=fun v:Vc α=>v i) hl
  have hkl:(qf0 (fun v:Vc α=>v i) G).length≤400:=by
    unfold qf0
    split
    · exact hG
    · rw [List.length_map];exact Nat.le_trans (List.length_eraseIdx_le ..) hG
  refine FZ.mono (qjz (T:=pick (n-1) (qc0 i)) (hr7.pre h8) (by omega) (fun x hx w H1 hp hw=>?_)) ?_
  · exact without1_c (hp.get hik) hw (hlk x hx) (by omega) hi
  rintro r9 H9 ⟨hp9,hr9⟩
  have hc9:=hp9.get hc8
  simp (disch:=omega) only [zA,zB,zC,zD,zF,zG,zH,↓reduceIte,hc9]
  refine FZ.mono (qhx Q hr9 ((LM.pick n (n-1) (qc0 i)).width hlk) (by rw [List.length_map];omega) (by omega) (by omega)) ?_
  rintro _ H10 ⟨hp10,w,rfl,hw⟩
  have hpall:=hp4.trans (hp7.trans (h8.trans (hp9.trans hp10)))
  have hb10:H10[H.length+2]? = some (.cells [nv 0,nv 0,.slice none 0 0] 29 none false):=hpall.get (by simp)
  have s9:=qbs (H:=H10) (bl:=H.length+2) (x:=nv q) (y:=nv (n-1)) (z:=w) (c0:=nv 0) (c1:=nv 0) (c2:=.slice none 0 0) (e:=29) (op:=none) rfl rfl hw.one
  have g9:(H10.set (H.length+2) (.cells [nv q,nv (n-1),w] 29 none false))[H.length+2]? = some (.cells [nv q,nv (n-1),w] 29 none false):=List.getElem?_set_self (qbx hb10)
  simp (disch:=omega) only [zA,zB,zC,zD,zF,zG,zH,↓reduceIte,hb10,s9,g9]
  have hl9:=(hp4.trans (hp7.trans (h8.trans hp9))).len
  simp only [List.length_append,List.length_cons,List.length_nil] at hl9
  exact⟨((Pre.new H _).trans hpall).set (by omega) _,w,rfl,(hw.setLow (by omega)).mono (by omega)⟩
theorem F2.add (F:FOK α cd p e b c 2 blk) (x y:α):cd (Fl.add x y)=cd x ^^^ cd y:=by
  have h01:∀ z:α,z=Fl.zero∨z=Fl.one:=fun z=>by
    have:=F.lt z
    have h:cd z=0∨cd z=1:=by omega
    rcases h with h|h
    · exact .inl ((F.eq0 z).1 h)
    · exact .inr (F.inj _ _ (by rw [h,F.one]))
  have h11:Fl.add (Fl.one:α) Fl.one=Fl.zero:=by
    rcases h01 (Fl.add Fl.one Fl.one) with h|h
    · exact h
    · exfalso
      have h2:Fl.add (Fl.one:α) Fl.one=Fl.add Fl.one Fl.zero:=by rw [h,Fl.add_zero]
      exact Fl.one_ne (Fl.add_left_cancel h2)
  rcases h01 x with rfl|rfl<;>rcases h01 y with rfl|rfl
  · rw [Fl.add_zero,F.zero];rfl
  · rw [Fl.zero_add,F.zero,F.one];rfl
  · rw [Fl.add_zero,F.zero,F.one];rfl
  · rw [h11,F.zero,F.one];rfl
theorem xor_bin {a b':Nat} (ha:a<2) (hb:b'<2):xbin .xor 0 (nv a) (nv b')=some (nv (a ^^^ b')):=by
  have h1:a=0∨a=1:=by omega
  have h2:b'=0∨b'=1:=by omega
  rcases h1 with rfl|rfl<;>rcases h2 with rfl|rfl<;>rfl
theorem even1_c (F:FOK α cd p e b c 2 blk) {w:Value} {x:List α} {n:Nat} (hw:Row H w (evs cd x)) (hl:x.length=n) (hn:n≤1000):FN Tryz.prog 133 [w] H (fun r H'=>r=nv (cd (vsum n (toV x)))∧H'=H):=by
  refine g133_of ?_
  unfold g133
  obtain⟨vl,vi,vd,_⟩:=hw.all Fl.zero
  simp (disch:=omega) only [zA,zB,zC,zD,zF,zG,zH,↓reduceIte,vl]
  refine loopV2.nat n (fun k l i H'=>i=nv k∧H'=H∧l=nv (cd (vsum k (toV x)))) ⟨rfl,rfl,?_⟩ ?_ ?_
  · rw [show vsum 0 (toV x)=(Fl.zero:α) from rfl,F.zero]
  · rintro k l i H hk ⟨rfl,rfl,rfl⟩ J hJ
    have hk':k<x.length:=by omega
    have hx:=xor_bin (F.lt (vsum k (toV x))) (F.lt (x.getD k Fl.zero))
    rw [←F2.add F] at hx
    simp (disch:=omega) only [zA,zB,zC,zD,zF,zG,zH,↓reduceIte,vi,vd,hk',hx]
    exact hJ _ _ _ ⟨rfl,rfl,rfl⟩
  · rintro l i H ⟨rfl,rfl,rfl⟩ J
    simp (disch:=omega) only [zA,zB,zC,zD,zF,zG,zH,↓reduceIte,hl]
theorem even_c (Q:FQ α cd p e 2 blk) {v:Value} {n:Nat} {G:List (List α)} (hv:RowR H v (evr cd G)) (hl:∀ x∈G,x.length=n) (hG:G.length≤400) (hn:n≤1000) (hn0:0<n) :
    FN Tryz.prog 75 [codv 2 n v] H (RetC cd 2 n (lev (vsum n) G) H):=by
  refine g75_of ?_
  unfold g75
  have ho:=hv.one'
  simp (disch:=omega) only [zA,zB,zC,zD,zF,zG,zH,↓reduceIte]
  have hX:=Pre.new H [.cells [nv 2,nv n,v] 29 none false,.cells [nv 0,nv 0,.slice none 0 0] 29 none false]
  refine FZ.mono (kept_c Q (F:=133) (cap:=#[]) (f:=vsum n) (hv.pre hX) hl hG hn hn0 (fun x hx w H1 hp hw=>?_)) ?_
  · exact even1_c (Q.ok 0) hw (hl x hx) hn
  rintro r5 H5 ⟨hp5,hr5⟩
  have hc5:H5[H.length]? = some (.cells [nv 2,nv n,v] 29 none false):=hp5.get (by simp)
  simp (disch:=omega) only [zA,zB,zC,zD,zF,zG,zH,↓reduceIte,hc5]
  have hkl:(qf0 (vsum n) G).length≤400:=by
    unfold qf0
    split
    · exact hG
    · rw [List.length_map];exact Nat.le_trans (List.length_eraseIdx_le ..) hG
  refine FZ.mono (qhx Q hr5 (qfz (f:=vsum n) hl) (by omega) (by omega) hn0) ?_
  rintro _ H6 ⟨hp6,w,rfl,hw⟩
  have hpall:=hp5.trans hp6
  have hb6:H6[H.length+1]? = some (.cells [nv 0,nv 0,.slice none 0 0] 29 none false):=hpall.get (by simp)
  have s9:=qbs (H:=H6) (bl:=H.length+1) (x:=nv 2) (y:=nv n) (z:=w) (c0:=nv 0) (c1:=nv 0) (c2:=.slice none 0 0) (e:=29) (op:=none) rfl rfl hw.one
  have g9:(H6.set (H.length+1) (.cells [nv 2,nv n,w] 29 none false))[H.length+1]? = some (.cells [nv 2,nv n,w] 29 none false):=List.getElem?_set_self (qbx hb6)
  simp (disch:=omega) only [zA,zB,zC,zD,zF,zG,zH,↓reduceIte,hb6,s9,g9]
  have hl5:=hp5.len
  simp only [List.length_append,List.length_cons,List.length_nil] at hl5
  exact⟨(hX.trans hpall).set (by omega) _,w,rfl,(hw.setLow (by omega)).mono (by omega)⟩
end
end Go.Sim
