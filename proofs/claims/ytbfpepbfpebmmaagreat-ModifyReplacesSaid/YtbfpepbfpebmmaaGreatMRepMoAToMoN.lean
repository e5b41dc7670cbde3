/- Part of the proof: MoA, ZPfMatA, ZPfMatB, ZSpF, MoB, MoC, MoP, MoQ, MoD, MoE, MoF, MoJ, MoT, MoK, MoL, MoX, MoM, MoN. -/
import Derived.Test.YtbfpepbfpebmmaaGreatMRepZMoG
import Derived.Test.YtbfpepbfpebmmaaGreatMRepZMoH
import Derived.Test.YtbfpepbfpebmmaaGreatMRepZSpAToZSpU
import Derived.Test.YtbfpepbfpebmmaaGreatMRepShLw
import Derived.Test.YtbfpepbfpebmmaaGreatMRepZPfFieldT
import Derived.Test.YtbfpepbfpebmmaaGreatMRepZPfFieldOToZPfFieldS
import Derived.Test.YtbfpepbfpebmmaaGreatMRepZPfFieldW0
import Derived.Test.YtbfpepbfpebmmaaGreatMRepZPfFieldK
import Derived.Test.YtbfpepbfpebmmaaGreatMRepZPfFieldL
import Derived.Test.YtbfpepbfpebmmaaGreatMRepSimWToSimX2
import Derived.Test.YtbfpepbfpebmmaaGreatMRepZZzXfC
import Derived.Test.YtbfpepbfpebmmaaGreatMRepSimSTToShC
set_option linter.all false
namespace Go.Sim
open Go Go.Proofs
theorem Acc.own {H0 H:AH} {v:Value} {cs:List Value} {e:TypeId} (h:Acc H0 H v cs e) (h0:cs≠[]):Own H0 H v cs e:=by
  rcases h with ⟨h,_⟩|h
  · exact absurd h h0
  · exact h
section
variable {H:AH}
theorem each_c {v:Value} {css Ts:List (List Value)} {F:Nat} {cap:Array Value} (hv:RowR H v css) (hl:Ts.length=css.length) (hn:css.length≤100000) (hp:∀ t∈Ts,t.all plain=true)
    (hF:∀ k w (H1:AH),k<css.length→Pre H H1→Row H1 w (css.getD k [])→FN Tryz.prog F (w :: cap.toList) H1 (fun r H2=>Pre H1 H2∧Row H2 r (Ts.getD k []))) :
    FN Tryz.prog 113 [v,.func (.func F) #[] cap] H (fun r H'=>Pre H H'∧AccR H H' r Ts 31):=by
  refine g113_of ?_
  unfold g113
  obtain⟨vs,hvs,hvr⟩:=hv
  have hvl:=hvr.1
  obtain⟨vl,_,_,_⟩:=hvs.1.allV
  simp (disch:=omega) only [zA,zB,zC,zD,zF,zG,zH,↓reduceIte,vl]
  refine loopV2.nat css.length (fun k out i H'=>i=nv k∧Pre H H'∧AccR H H' out (Ts.take k) 31) ⟨rfl,Pre.refl _,AccR.nil⟩ ?_ ?_
  · rintro k out i H2 hk ⟨rfl,hp2,ho⟩ J hJ
    obtain⟨_,vi,vd,_⟩:=(hvs.1.pre hp2).allV
    have hk':k<vs.length:=by omega
    simp (disch:=omega) only [zA,zB,zC,zD,zF,zG,zH,↓reduceIte,vi,vd,hk']
    refine FZ.mono (hF k _ H2 hk hp2 ((hvr.2 k hk).pre hp2)) ?_
    rintro r H3 ⟨hp3,hr⟩
    have hkT:k<Ts.length:=by omega
    have hlt:(Ts.take k).length≤100000:=by simp;omega
    have hpre:=hp2.trans hp3
    obtain⟨out',H5,e1,ho',hp',_⟩:=(ho.pre hp3).app1 (by_:=24) hpre.len hr (hp _ (getD_mem hkT)) (by omega) (by omega) (e2:=31)
    simp (disch:=(first|omega|(simp only [stLen]<;>omega)|(simp only [all_nv];done)|rfl)) only [zA,zB,zC,zD,zF,zG,zH,Nat.reduceEqDiff,Nat.reduceLT,Nat.reduceLeDiff,↓reduceIte,hr.fill,e1]
    refine hJ _ _ _ ⟨rfl,hp' hpre,?_⟩
    rw [List.take_succ_eq_append_getElem hkT]
    simpa [List.getD_eq_getElem?_getD,List.getElem?_eq_getElem hkT] using ho'
  · rintro out i H3 ⟨rfl,hp3,ho⟩ J
    obtain⟨vl,_,_,_⟩:=(hvs.1.pre hp3).allV
    simp (disch:=omega) only [zA,zB,zC,zD,zF,zG,zH,↓reduceIte,hvl]
    rw [List.take_of_length_le (by omega)] at ho
    exact⟨hp3,ho⟩
end
end Go.Sim

namespace Go.Sim.Pf
structure Lin (p:Nat) (l3 l1 l2:List Nat):Prop where
  n1:l1.length=l3.length
  n2:l2.length=l3.length
  b3:∀ z∈l3,z<p
  b1:∀ z∈l1,z<p
  b2:∀ z∈l2,z<p
  at_:∀ j,∃ t:Int,(l3.getD j 0:Int)=l1.getD j 0+l2.getD j 0+p*t
theorem mem_set_lt {p v i:Nat} {l:List Nat} (h:∀ z∈l,z<p) (hv:v<p):∀ z∈l.set i v,z<p:=by
  intro z hz
  rcases List.mem_or_eq_of_mem_set hz with h1|rfl
  · exact h z h1
  · exact hv
theorem Lin.set {p i v3 v1 v2:Nat} {l3 l1 l2:List Nat} (h:Lin p l3 l1 l2) (h3:v3<p) (h1:v1<p) (h2:v2<p) (hv:∃ t:Int,(v3:Int)=v1+v2+p*t):Lin p (l3.set i v3) (l1.set i v1) (l2.set i v2):=by
  refine⟨by simp [h.n1],by simp [h.n2],mem_set_lt h.b3 h3,mem_set_lt h.b1 h1,mem_set_lt h.b2 h2,fun j=>?_⟩
  by_cases hi:i<l3.length
  · rw [getD_set hi,getD_set (h.n1 ▸ hi),getD_set (h.n2 ▸ hi)]
    by_cases hj:i=j
    · rw [if_pos hj,if_pos hj,if_pos hj];exact hv
    · rw [if_neg hj,if_neg hj,if_neg hj];exact h.at_ j
  · rw [List.set_eq_of_length_le (by omega),List.set_eq_of_length_le (by have:=h.n1;omega),List.set_eq_of_length_le (by have:=h.n2;omega)]
    exact h.at_ j
theorem mod_lin {p a3 a1 a2:Nat} {t:Int} (h:(a3:Int)=a1+a2+p*t):∃ s:Int,((a3 % p:Nat):Int)=(a1 % p:Nat)+(a2 % p:Nat)+p*s:=by
  have e3:=Int.mul_ediv_add_emod (a3:Int) p
  have e1:=Int.mul_ediv_add_emod (a1:Int) p
  have e2:=Int.mul_ediv_add_emod (a2:Int) p
  simp only [Int.natCast_emod]
  generalize (a3:Int) / p=q3 at *
  generalize (a1:Int) / p=q1 at *
  generalize (a2:Int) / p=q2 at *
  exact⟨t-q3+q1+q2,by grind⟩
theorem Lin.fold {p:Nat} {f3 f1 f2:List Nat→Nat→List Nat} (h:∀ k l3 l1 l2,Lin p l3 l1 l2→Lin p (f3 l3 k) (f1 l1 k) (f2 l2 k)):∀ (ks:List Nat) (l3 l1 l2:List Nat),Lin p l3 l1 l2→Lin p (ks.foldl f3 l3) (ks.foldl f1 l1) (ks.foldl f2 l2)
  | [],_,_,_,hl=>hl
  | k :: ks,_,_,_,hl=>Lin.fold h ks _ _ _ (h k _ _ _ hl)
theorem mulL_lin {p e:Nat} {x3 y3 x1 y1 x2 y2:List Nat} (hp:0<p) (h:∀ i k,∃ t:Int,(x3.getD i 0:Int)*y3.getD k 0=x1.getD i 0*y1.getD k 0+x2.getD i 0*y2.getD k 0+p*t):Lin p (mulL p e x3 y3) (mulL p e x1 y1) (mulL p e x2 y2):=by
  refine Lin.fold (fun i l3 l1 l2 hl=>Lin.fold (fun k l3 l1 l2 hl=>?_) _ _ _ _ hl) _ _ _ _ ?_
  · obtain⟨t1,h1⟩:=hl.at_ (i+k)
    obtain⟨t2,h2⟩:=h i k
    refine hl.set (Nat.mod_lt _ hp) (Nat.mod_lt _ hp) (Nat.mod_lt _ hp) (mod_lin (t:=t1+t2) ?_)
    simp only [Int.natCast_add,Int.natCast_mul]
    rw [h1,h2]
    grind
  · have hz:∀ z∈List.replicate (2*e) 0,z<p:=by intro z hz;rw [List.mem_replicate] at hz;omega
    refine⟨rfl,rfl,hz,hz,hz,fun j=>⟨0,?_⟩⟩
    have:(List.replicate (2*e) 0).getD j 0=0:=by
      simp only [List.getD_eq_getElem?_getD,List.getElem?_replicate];split<;>rfl
    rw [this];rfl
theorem restL_lin {p d:Nat} {m l3 l1 l2:List Nat} (hp:0<p) (h:Lin p l3 l1 l2):Lin p (restL p d m l3) (restL p d m l1) (restL p d m l2):=by
  unfold restL
  rw [h.n1,h.n2]
  refine Lin.fold (fun t l3 l1 l2 hl=>?_) _ _ _ _ h
  unfold restI
  rw [hl.n1,hl.n2]
  obtain⟨s,hs⟩:=hl.at_ (l3.length-1-t)
  have c3:=getD_lt (k:=l3.length-1-t) hp hl.b3
  have c1:=getD_lt (k:=l3.length-1-t) hp hl.b1
  have c2:=getD_lt (k:=l3.length-1-t) hp hl.b2
  generalize l3.getD (l3.length-1-t) 0=C3 at *
  generalize l1.getD (l3.length-1-t) 0=C1 at *
  generalize l2.getD (l3.length-1-t) 0=C2 at *
  generalize l3.length-1-t-d=B
  refine Lin.fold (fun k l3 l1 l2 hl=>?_) _ _ _ _ hl
  obtain⟨t1,h1⟩:=hl.at_ (B+k)
  refine hl.set (Nat.mod_lt _ hp) (Nat.mod_lt _ hp) (Nat.mod_lt _ hp) (mod_lin (t:=t1-(1+s)*m.getD k 0) ?_)
  have g3:((p-C3:Nat):Int)=(p:Int)-C3:=by omega
  have g1:((p-C1:Nat):Int)=(p:Int)-C1:=by omega
  have g2:((p-C2:Nat):Int)=(p:Int)-C2:=by omega
  simp only [Int.natCast_add,Int.natCast_mul,g3,g1,g2]
  rw [h1,hs]
  grind
theorem digE {p e a:Nat} (j:Nat):(digs p a e).getD j 0=if j<e then dg p a j else 0:=by
  by_cases h:j<e
  · rw [if_pos h,digs_getD p e a j h];rfl
  · rw [if_neg h,List.getD_eq_getElem?_getD,List.getElem?_eq_none (by rw [digs_length];omega)];rfl
theorem rmul_bil {p e:Nat} {m:List Nat} (F:Fd p e m) {a1 b1 a2 b2 a3 b3:Nat} (h:∀ i j,i<e→j<e→∃ t:Int,(dg p a3 i:Int)*dg p b3 j=dg p a1 i*dg p b1 j+dg p a2 i*dg p b2 j+p*t) :
    rmulF p e m a3 b3=addF p e (rmulF p e m a1 b1) (rmulF p e m a2 b2):=by
  have hp:0<p:=by have:=F.p2;omega
  have hL:=restL_lin (d:=e) (m:=m++[1]) hp (mulL_lin (e:=e) (x3:=digs p a3 e) (y3:=digs p b3 e) (x1:=digs p a1 e) (y1:=digs p b1 e) (x2:=digs p a2 e) (y2:=digs p b2 e) hp (fun i k=>by
    simp only [digE]
    by_cases hi:i<e
    · by_cases hk:k<e
      · simp only [hi,hk,if_true];exact h i k hi hk
      · exact⟨0,by simp [hk]⟩
    · exact⟨0,by simp [hi]⟩))
  have hlen:∀ x y,(restL p e (m++[1]) (mulL p e (digs p x e) (digs p y e))).length=2*e∧∀ z∈restL p e (m++[1]) (mulL p e (digs p x e) (digs p y e)),z<p:=by
    intro x y
    have hz0:∀ z∈List.replicate (2*e) 0,z<p:=by intro z hz;rw [List.mem_replicate] at hz;omega
    have q:=fold_ok (f:=mulI p e (digs p x e) (digs p y e)) (p:=p) (n:=2*e) (fun out k h1 h2=>fold_ok (fun out k h1 h2=>mulK_ok hp h1 h2) _ _ h1 h2) (List.range e) (List.replicate (2*e) 0) (by simp) hz0
    exact fold_ok (f:=restI p e (m++[1])) (p:=p) (n:=2*e) (fun out k h1 h2=>restI_ok hp h1 h2) _ _ q.1 q.2
  have hdg:∀ x y i,i<e→dg p (rmulF p e m x y) i=(restL p e (m++[1]) (mulL p e (digs p x e) (digs p y e))).getD i 0:=by
    intro x y i hi
    unfold dg rmulF
    rw [num_digit hp _ (fun z hz=>(hlen x y).2 z (List.mem_of_mem_take hz))]
    simp only [List.getD_eq_getElem?_getD,List.getElem?_take,if_pos hi]
  have hlt:∀ x y,rmulF p e m x y<p ^ e:=by
    intro x y
    have:=num_lt (p:=p) hp ((restL p e (m++[1]) (mulL p e (digs p x e) (digs p y e))).take e) (fun z hz=>(hlen x y).2 z (List.mem_of_mem_take hz))
    rwa [List.length_take,(hlen x y).1,Nat.min_eq_left (by omega)] at this
  refine digit_ext hp e _ _ (hlt _ _) (addF_lt hp) (fun i hi=>?_)
  refine Eq.trans ?_ (addF_dg (a:=rmulF p e m a1 b1) (b:=rmulF p e m a2 b2) hp hi).symm
  obtain⟨t,ht⟩:=hL.at_ i
  rw [←hdg _ _ i hi,←hdg _ _ i hi,←hdg _ _ i hi] at ht
  exact mod_of hp (dg_lt hp) ht
def rmB (p e:Nat) (m:List Nat):Bool:=(List.range e).all fun i=>(List.range e).all fun j=>Nat.beq (rmulF p e m (p ^ i) (p ^ j)) (mulF p e m (p ^ i) (p ^ j))
theorem rmul_eq {p e:Nat} {m:List Nat} {g:Nat} {E:List Nat} (F:FT p e m g E) (hr:rmB p e m=true) (a b:Nat) (ha:a<p ^ e) (hb:b<p ^ e):rmulF p e m a b=mulF p e m a b:=by
  have hp:=F.hp
  have hadd1:∀ a b c,rmulF p e m (addF p e a b) c=addF p e (rmulF p e m a c) (rmulF p e m b c):=fun a b c=>by
    refine rmul_bil F.toFd (fun i j hi hj=>?_)
    obtain⟨t,ht⟩:=add_dg_int (p:=p) (e:=e) (a:=a) (b:=b) hp hi
    exact⟨t*dg p c j,by rw [ht];grind⟩
  have hadd2:∀ a b c,rmulF p e m a (addF p e b c)=addF p e (rmulF p e m a b) (rmulF p e m a c):=fun a b c=>by
    refine rmul_bil F.toFd (fun i j hi hj=>?_)
    obtain⟨t,ht⟩:=add_dg_int (p:=p) (e:=e) (a:=b) (b:=c) hp hj
    exact⟨t*dg p a i,by rw [ht];grind⟩
  have hz:∀ x,addF p e x x=x→x<p ^ e→x=0:=fun x hx hlt=>by
    have h1:=sub_addF (e:=e) (a:=x) (b:=x) hp hlt
    rw [hx] at h1
    have h2:subF p e x x=0:=by
      refine digit_ext hp e _ _ (subF_lt hp) (Nat.pow_pos hp) (fun i hi=>?_)
      refine (subF_dg hp hi).trans ?_
      have:=dg_lt (p:=p) (a:=x) (i:=i) hp
      rw [show dg p x i+p-dg p x i=p by omega,Nat.mod_self]
      exact dg_zero.symm
    omega
  have h00:addF p e 0 0=0:=addF_zero hp (Nat.pow_pos hp)
  have hlt:∀ a b,rmulF p e m a b=0∨rmulF p e m a b<p ^ e:=fun a b=>by
    right
    have h:=rmul_bil F.toFd (a3:=a) (b3:=b) (a1:=a) (b1:=b) (a2:=0) (b2:=0) (fun i j hi hj=>⟨0,by simp [dg_zero]⟩)
    rw [h];exact addF_lt hp
  have hr0:∀ b,rmulF p e m 0 b=0:=fun b=>by
    have h:=hadd1 0 0 b
    rw [h00] at h
    rcases hlt 0 b with h1|h1
    · exact h1
    · exact hz _ h.symm h1
  have hr1:∀ a,rmulF p e m a 0=0:=fun a=>by
    have h:=hadd2 a 0 0
    rw [h00] at h
    rcases hlt a 0 with h1|h1
    · exact h1
    · exact hz _ h.symm h1
  refine F.gen (fun a=>rmulF p e m a b=mulF p e m a b) ?_ (fun i hi=>?_) (fun x y hx hy=>?_) a ha
  · rw [hr0,mul_zeroF F.toFd _ _ (.inl rfl)]
  · refine F.gen (fun b=>rmulF p e m (p ^ i) b=mulF p e m (p ^ i) b) ?_ (fun j hj=>?_) (fun x y hx hy=>?_) b hb
    · rw [hr1,mul_zeroF F.toFd _ _ (.inr rfl)]
    · exact Nat.eq_of_beq_eq_true (List.all_eq_true.1 (List.all_eq_true.1 hr i (List.mem_range.2 hi)) j (List.mem_range.2 hj))
    · rw [hadd2,mul_addF F.toFd,hx,hy]
  · rw [hadd1,add_mulF F.toFd,hx,hy]
theorem rsub_eq {p e a b:Nat} (hp:0<p):addF p e a (negF p e b)=subF p e a b:=by
  have hneg:∀ i,i<e→dg p (negF p e b) i=(p-dg p b i) % p:=by
    intro i hi
    have hl:∀ z∈negL p (digs p b e),z<p:=by
      intro z hz
      simp only [negL,List.mem_map] at hz
      obtain⟨w,_,rfl⟩:=hz
      exact Nat.mod_lt _ hp
    unfold negF
    have h1:=num_digit hp (negL p (digs p b e)) hl i
    refine h1.trans ?_
    have l1:=digs_length p e b
    have h2:dg p b i=(digs p b e).getD i 0:=(digs_getD p e b i hi).symm
    rw [h2]
    simp only [negL,List.getD_eq_getElem?_getD,List.getElem?_map]
    rw [List.getElem?_eq_getElem (by omega)]
    rfl
  refine digit_ext hp e _ _ (addF_lt hp) (subF_lt hp) (fun i hi=>?_)
  refine (addF_dg hp hi).trans (Eq.trans ?_ (subF_dg hp hi).symm)
  rw [hneg i hi,Nat.add_mod_mod]
  have:=dg_lt (p:=p) (a:=b) (i:=i) hp
  congr 1;omega
end Go.Sim.Pf

namespace Go.Sim.Pf
open Go Go.Proofs
structure FM (p e:Nat) (m:List Nat) (g:Nat) (E fs:List Nat):Prop extends FT p e m g E where
  rm:rmB p e m=true
theorem neg_eq {p e b:Nat} (hp:0<p):negF p e b=subF p e 0 b:=by
  have h:=rsub_eq (e:=e) (a:=0) (b:=b) hp
  have hl:(negL p (digs p b e)).length=e:=by simp [negL,digs_length]
  have hlt:negF p e b<p ^ e:=by
    have:=num_lt (p:=p) hp (negL p (digs p b e)) (by
      intro z hz
      simp only [negL,List.mem_map] at hz
      obtain⟨w,_,rfl⟩:=hz
      exact Nat.mod_lt _ hp)
    rwa [hl] at this
  rw [addF_comm hp,addF_zero hp hlt] at h
  exact h
section
variable {p e b c x:Nat} {m fs:List Nat} {g:Nat} {E:List Nat} {H:AH} {el:TypeId} {op:Option Nat} {r:Bool}
theorem rmulM (F:FM p e m g E fs) (hb:H[b]? = some (.cells (m.map nv) el op r)) {y:Nat} (hx:x<p ^ e) (hy:y<p ^ e):FN Tryz.prog 132 [fldv p e b e c,nv x,nv y] H (fun v H'=>v=nv (mulF p e m x y)∧H'=H):=by
  have hq:=F.q
  have h:=rmul_spec (c:=c) hb F.len F.lt F.p2 F.e1 F.e6 F.q (show x<1000 by omega) (show y<1000 by omega)
  rwa [rmul_eq F.toFT F.rm x y hx hy] at h
theorem inv_uniq (F:FM p e m g E fs) {y:Nat} (hx:x<p ^ e) (h0:x≠0) (hy:y<p ^ e) (h:mulF p e m x y=1):y=pw p e m x (p ^ e-2):=by
  have hI:=F.mul_inv x hx h0
  have hlt:=F.pw_lt x (p ^ e-2)
  generalize pw p e m x (p ^ e-2)=I at *
  have h1:mulF p e m I (mulF p e m x y)=y:=by
    rw [←F.mul_assoc _ _ _ hlt hx hy,F.mul_comm I x hlt hx,hI,F.one_mul y hy]
  rw [h,F.mul_one I hlt] at h1
  exact h1.symm
theorem powZ_inv (F:FM p e m g E fs) (hx:x<p ^ e) (h0:x≠0):powZ p e m x (-1)=(pw p e m x (p ^ e-2),0):=by
  have:=F.q2
  have h1:((-1:Int) % ((p ^ e:Nat)-1:Int)).toNat=p ^ e-2:=by
    rcases Nat.eq_or_lt_of_le this with h|h
    · rw [←h];rfl
    · have:(-1:Int) % ((p ^ e:Nat)-1:Int)=((p ^ e:Nat)-2:Int):=by
        rw [←Int.add_mul_emod_self_left (-1) _ 1]
        rw [Int.emod_eq_of_lt (by omega) (by omega)]
        omega
      omega
  unfold powZ
  rw [if_neg (by omega),if_neg h0,h1,F.powF x _ hx]
theorem rinv_spec (F:FM p e m g E fs) (hb:H[b]? = some (.cells (m.map nv) el op r)) (hx:x<p ^ e) :
    FN Tryz.prog 107 [fldv p e b e c,nv x] H (fun v H'=>v=.tuple [nv (powZ p e m x (-1)).1,nv (powZ p e m x (-1)).2].toArray∧H'=H):=by
  have hb2:=fun (Y:AH)=>get_old (L:=Y) hb
  have hq:=F.q
  refine FN.gc0 (FN.of_compZ mixed xf107_ok (Nat.le_of_ble_eq_true rfl) ?_)
  by_cases h0:x=0
  · subst h0
    simp (disch:=(first|omega|(simp only [List.length_map];omega)|(simp only [stLen]<;>omega)|(simp only [all_nv];done)|rfl)) only [↓stPre,zC,zD,zF,zG,zH,Nat.reduceEqDiff,Nat.reduceLT,Nat.reduceLeDiff,↓reduceIte,xf107]
    simp [ground,scal,powZ]
  · rw [powZ_inv F hx h0]
    have hI:=F.mul_inv x hx h0
    have hu:=fun y hy=>inv_uniq F (x:=x) (y:=y) hx h0 hy
    have hlt:=F.pw_lt x (p ^ e-2)
    have hne:=F.pw_ne x (p ^ e-2) hx h0
    generalize pw p e m x (p ^ e-2)=I at *
    simp (disch:=(first|omega|(simp only [List.length_map];omega)|(simp only [stLen]<;>omega)|(simp only [all_nv];done)|rfl)) only [↓stPre,zC,zD,zF,zG,zH,Nat.reduceEqDiff,Nat.reduceLT,Nat.reduceLeDiff,↓reduceIte,xf107,h0]
    refine LZ.nat (I-1) (fun k s H'=>s.env 1=nv x∧s.env 2=.pointer (some ⟨H.length,0,none⟩)∧s.env 6=nv (k+1)∧s.ds=[]∧H'=H++[.cells [nv p,nv e,.slice (some ⟨b,0,none⟩) e c] 76 none false]) ?_ ?_ ?_
    · simp (disch:=(first|omega|(simp only [List.length_map];omega)|(simp only [stLen]<;>omega)|(simp only [all_nv];done)|rfl)) only [↓stPre,zC,zD,zF,zG,zH,Nat.reduceEqDiff,Nat.reduceLT,Nat.reduceLeDiff,↓reduceIte]
    · rintro k s H1 hk ⟨e1,e2,e6,eds,rfl⟩
      have hk1:k+1<p ^ e:=by omega
      have hn1:¬mulF p e m x (k+1)=1:=fun h=>by have:=hu (k+1) hk1 h;omega
      simp (disch:=(first|omega|(simp only [List.length_map];omega)|(simp only [stLen]<;>omega)|(simp only [all_nv];done)|rfl)) only [↓stPre,zC,zD,zF,zG,zH,Nat.reduceEqDiff,Nat.reduceLT,Nat.reduceLeDiff,↓reduceIte,e1,e2,e6,eds]
      refine FZ.use (rsize_spec F.p2 F.q) ?_
      simp (disch:=(first|omega|(simp only [List.length_map];omega)|(simp only [stLen]<;>omega)|(simp only [all_nv];done)|rfl)) only [↓stPre,zC,zD,zF,zG,zH,Nat.reduceEqDiff,Nat.reduceLT,Nat.reduceLeDiff,↓reduceIte,e1,e2,e6,eds,hk1]
      refine FZ.use (rmulM F (hb2 _) hx hk1) ?_
      simp (disch:=(first|omega|(simp only [List.length_map];omega)|(simp only [stLen]<;>omega)|(simp only [all_nv];done)|rfl)) only [↓stPre,zC,zD,zF,zG,zH,Nat.reduceEqDiff,Nat.reduceLT,Nat.reduceLeDiff,↓reduceIte,e1,e2,e6,eds,hn1]
    · rintro s H1 ⟨e1,e2,e6,eds,rfl⟩
      have hI1:I-1+1=I:=by omega
      rw [hI1] at e6
      simp (disch:=(first|omega|(simp only [List.length_map];omega)|(simp only [stLen]<;>omega)|(simp only [all_nv];done)|rfl)) only [↓stPre,zC,zD,zF,zG,zH,Nat.reduceEqDiff,Nat.reduceLT,Nat.reduceLeDiff,↓reduceIte,e1,e2,e6,eds]
      refine FZ.use (rsize_spec F.p2 F.q) ?_
      simp (disch:=(first|omega|(simp only [List.length_map];omega)|(simp only [stLen]<;>omega)|(simp only [all_nv];done)|rfl)) only [↓stPre,zC,zD,zF,zG,zH,Nat.reduceEqDiff,Nat.reduceLT,Nat.reduceLeDiff,↓reduceIte,e1,e2,e6,eds,hlt]
      refine FZ.use (rmulM F (hb2 _) hx hlt) ?_
      simp (disch:=(first|omega|(simp only [List.length_map];omega)|(simp only [stLen]<;>omega)|(simp only [all_nv];done)|rfl)) only [↓stPre,zC,zD,zF,zG,zH,Nat.reduceEqDiff,Nat.reduceLT,Nat.reduceLeDiff,↓reduceIte,e1,e2,e6,eds,hI,xf107]
      simp [ground,scal]
theorem rnegM (hp:2≤p) (he:1≤e) (he6:e≤6) (hq:p ^ e≤64) {n:Nat} (hx:x<1000):FN Tryz.prog 81 [fldv p e b n c,nv x] H (fun v H'=>v=nv (subF p e 0 x)∧H'=H):=by
  have h:=rneg_spec (b:=b) (n:=n) (c:=c) (H:=H) hp he he6 hq hx
  rwa [neg_eq (by omega)] at h
end
end Go.Sim.Pf

namespace Go.Sim
open Go Go.Proofs
structure FQ (α:Type) [Fl α] (cd:α→Nat) (p e q:Nat) (blk:AB):Prop where
  ok:∀ b,FOK α cd p e b e q blk
  make:∀ H:AH,FN Tryz.prog 111 [nv q] H (fun r H'=>r=.tuple [fldv p e H.length e e,nv 0].toArray∧H'=H++[blk])
  rmake:∀ H:AH,FN Tryz.prog 109 [nv q] H (fun r H'=>r=.tuple [fldv p e H.length e e,nv 0].toArray∧H'=H++[blk])
end Go.Sim
namespace Go.Sim.Pf
open Go Go.Proofs
@[reducible] def flOf {p e g:Nat} {m E:List Nat} (F:FT p e m g E):Fl {n:Nat // n<p ^ e} where
  zero:=⟨0,by have:=F.q2;omega⟩
  one:=⟨1,by have:=F.q2;omega⟩
  add a b:=⟨addF p e a.1 b.1,addF_lt F.hp⟩
  mul a b:=⟨mulF p e m a.1 b.1,F.mul_lt _ _⟩
  neg a:=⟨subF p e 0 a.1,subF_lt F.hp⟩
  inv a:=⟨pw p e m a.1 (p ^ e-2),F.pw_lt _ _⟩
  add_comm a b:=Subtype.ext (addF_comm F.hp _ _)
  add_assoc a b c:=Subtype.ext (addF_assoc F.hp _ _ _)
  add_zero a:=Subtype.ext (addF_zero F.hp a.2)
  add_neg a:=Subtype.ext (add_negF F.hp)
  mul_comm a b:=Subtype.ext (F.mul_comm _ _ a.2 b.2)
  mul_assoc a b c:=Subtype.ext (F.mul_assoc _ _ _ a.2 b.2 c.2)
  mul_one a:=Subtype.ext (F.mul_one _ a.2)
  mul_add a b c:=Subtype.ext (mul_addF F.toFd _ _ _)
  mul_inv a h:=Subtype.ext (F.mul_inv _ a.2 (fun h0=>h (Subtype.ext h0)))
  one_ne:=fun h=>by have:=congrArg Subtype.val h;simp at this
theorem fokOf {p e g:Nat} {m E:List Nat} (F:FT p e m g E) (hr:rmB p e m=true) (b:Nat) :
    @FOK {n:Nat // n<p ^ e} (flOf F) (fun x=>x.1) p e b e (p ^ e) (.cells (m.map nv) 3 (some 1) false):=by
  letI:=flOf F
  have hq:=F.q
  have hp64:p≤64:=by have:=pow_le64 (k:=1) F.p2 F.e1 F.q;simpa using this
  have he6:=F.e6
  have lt:∀ x:{n:Nat // n<p ^ e},x.1<1000:=fun x=>by have:=x.2;omega
  have hsub:∀ x y:{n:Nat // n<p ^ e},subF p e x.1 y.1=(Fl.add x (Fl.neg y)).1:=fun x y=>by
    show _=addF p e x.1 (subF p e 0 y.1)
    rw [←neg_eq F.hp,rsub_eq F.hp]
  have FMm:FM p e m g E []:={ toFT:=F,rm:=hr }
  constructor
  · intro x y h;exact Subtype.ext h
  · intro x;exact x.2
  · intro n hn;exact⟨⟨n,hn⟩,rfl⟩
  · rfl
  · rfl
  · exact F.q
  · exact F.q2
  · intro H x y hb;exact mul_spec hb F.len F.lt F.p2 F.e1 F.e6 F.q (lt x) (lt y)
  · intro H x y hb;exact add_spec F.p2 F.e1 F.e6 rfl F.q (lt x) (lt y)
  · intro H x y hb;rw [←hsub];exact sub_spec F.p2 F.e1 F.e6 rfl F.q (lt x) (lt y)
  · intro H x hb;exact neg_spec F.p2 F.e1 F.e6 rfl F.q (lt x)
  · intro H x hb h0
    have h0':x.1≠0:=fun h=>h0 (Subtype.ext h)
    have h:=inv_spec (c:=e) hb F.len F.lt F.p2 F.e1 F.e6 F.q (lt x)
    rw [powZ_inv FMm x.2 h0'] at h
    exact h
  · intro H hb;exact size_spec F.p2 F.e1 F.e6 rfl F.q
  · intro H x y hb;exact rmulM FMm hb x.2 y.2
  · intro H x y hb;exact radd_spec F.p2 F.e1 F.e6 F.q (lt x) (lt y)
  · intro H x hb;exact rnegM F.p2 F.e1 F.e6 F.q (lt x)
  · intro H x hb h0
    have h0':x.1≠0:=fun h=>h0 (Subtype.ext h)
    have h:=rinv_spec (c:=e) FMm hb x.2
    rw [powZ_inv FMm x.2 h0'] at h
    exact h
  · intro H hb;exact rsize_spec F.p2 F.q
theorem fq_of {p e g q:Nat} {m E:List Nat} (F:FT p e m g E) (hq:q=p ^ e) (hr:rmB p e m=true) (h1:KnownOk Tryz.prog 111 [nv q] (.fld p e e e 0 (.cells (m.map nv) 3 (some 1) false))) (h2:KnownOk Tryz.prog 109 [nv q] (.fld p e e e 0 (.cells (m.map nv) 3 (some 1) false))) :
    @FQ {n:Nat // n<p ^ e} (flOf F) (fun x=>x.1) p e q (.cells (m.map nv) 3 (some 1) false):=by
  letI:=flOf F
  subst hq
  exact⟨fun b=>fokOf F hr b,h1,h2⟩
def ordM (j:Nat):Nat:=[2,3,4,5,7,8].getD j 0
end Go.Sim.Pf

namespace Go.Sim
open Go Go.Proofs
theorem stB_three {H:AH} {x y z c0 c1 c2:Value} {e:TypeId} {op:Option Nat} {bl:Nat} (h1:one x=true) (h2:one y=true) (h3:one z=true):stB 3 H (some (.cells [c0,c1,c2] e op false)) bl 0 (.agg #[x,y,z])=some (undef,H.set bl (.cells [x,y,z] e op false)):=
  stB_all (c':=[x,y,z]) rfl rfl (by simp [h1,h2,h3])
theorem stB_four {H:AH} {x y z u c0 c1 c2 c3:Value} {e:TypeId} {op:Option Nat} {bl:Nat} (h1:one x=true) (h2:one y=true) (h3:one z=true) (h4:one u=true):stB 4 H (some (.cells [c0,c1,c2,c3] e op false)) bl 0 (.agg #[x,y,z,u])=some (undef,H.set bl (.cells [x,y,z,u] e op false)):=
  stB_all (c':=[x,y,z,u]) rfl rfl (by simp [h1,h2,h3,h4])
section
variable {α:Type} [Fl α] [DecidableEq α] {cd:α→Nat} {p e b c q:Nat} {blk:AB} {H:AH}
abbrev codv (q n:Nat) (v:Value):Value:=.agg [nv q,nv n,v].toArray
abbrev gotv (q n:Nat) (v:Value) (er:Nat):Value:=.agg [nv q,nv n,v,nv er].toArray
theorem rtimes_c (F:FOK α cd p e b c q blk) {v:Value} {xs:List α} {a:α} (hb:H[b]? = some blk) (hv:Row H v (evs cd xs)) (hx:xs.length≤1000) :
    FN Tryz.prog 74 [fldv p e b e c,nv (cd a),v] H (fun r H'=>Pre H H'∧Acc H H' r (evs cd (xs.map (Fl.mul a))) 3):=by
  refine g74_of ?_
  unfold g74
  simp (disch:=omega) only [zA,zB,zC,zD,zF,zG,zH,↓reduceIte]
  refine loopV2.nat xs.length (fun k out i H'=>i=nv k∧Pre (H++[fbx p e b c]) H'∧Acc (H++[fbx p e b c]) H' out (evs cd ((xs.map (Fl.mul a)).take k)) 3) ?_ ?_ ?_
  · exact⟨rfl,Pre.snoc _ _ _,Acc.start1 rfl⟩
  · rintro k out i H3 hk ⟨rfl,hp,ho⟩ J hJ
    have hbx:=hp.get (b:=H.length) (x:=fbx p e b c) (by simp)
    have hp0:=(Pre.new H _).trans hp
    have hb3:=hp0.get hb
    obtain⟨vl,vi,vd,_⟩:=(hv.pre hp0).all Fl.zero
    simp (disch:=omega) only [zA,zB,zC,zD,zF,zG,zH,↓reduceIte,hbx,vl,vi,vd,hk]
    refine FZ.use (F.rmul H3 _ _ hb3) ?_
    have hlen:(evs cd ((xs.map (Fl.mul a)).take k)).length≤1000:=by simp;omega
    obtain⟨out',H5,e1,ho',hp',_⟩:=ho.app1 (by_:=8) hp.len (u:=nv (cd (Fl.mul a (xs.getD k Fl.zero)))) rfl (by omega) (by omega) (e2:=3)
    simp (disch:=(first|omega|(simp only [stLen]<;>omega)|(simp only [all_nv];done)|rfl)) only [zA,zB,zC,zD,zF,zG,zH,Nat.reduceEqDiff,Nat.reduceLT,Nat.reduceLeDiff,↓reduceIte,e1,hk]
    refine hJ _ _ _ ⟨rfl,hp' hp,?_⟩
    rw [List.take_succ_eq_append_getElem (by simpa using hk)]
    simpa [List.getD_eq_getElem?_getD,List.getElem?_eq_getElem hk] using ho'
  · rintro out i H3 ⟨rfl,hp,ho⟩ J
    have hp0:=(Pre.new H _).trans hp
    obtain⟨vl,vi,vd,_⟩:=(hv.pre hp0).all Fl.zero
    simp (disch:=omega) only [zA,zB,zC,zD,zF,zG,zH,↓reduceIte,vl]
    rw [List.take_of_length_le (by simp)] at ho
    exact⟨hp0,ho.mono (by simp)⟩
def lplus (xs ys:List α):List α:=List.zipWith Fl.add xs ys
theorem rplus_c (F:FOK α cd p e b c q blk) {v w:Value} {xs ys:List α} (hb:H[b]? = some blk) (hv:Row H v (evs cd xs)) (hw:Row H w (evs cd ys)) (hl:xs.length=ys.length) (hx:xs.length≤1000) :
    FN Tryz.prog 108 [fldv p e b e c,v,w] H (fun r H'=>Pre H H'∧Acc H H' r (evs cd (lplus xs ys)) 3):=by
  refine g108_of ?_
  unfold g108
  simp (disch:=omega) only [zA,zB,zC,zD,zF,zG,zH,↓reduceIte]
  refine loopV2.nat xs.length (fun k out i H'=>i=nv k∧Pre (H++[fbx p e b c]) H'∧Acc (H++[fbx p e b c]) H' out (evs cd ((lplus xs ys).take k)) 3) ?_ ?_ ?_
  · exact⟨rfl,Pre.snoc _ _ _,Acc.start1 rfl⟩
  · rintro k out i H3 hk ⟨rfl,hp,ho⟩ J hJ
    have hbx:=hp.get (b:=H.length) (x:=fbx p e b c) (by simp)
    have hp0:=(Pre.new H _).trans hp
    have hb3:=hp0.get hb
    have hky:k<ys.length:=by omega
    obtain⟨vl,vi,vd,_⟩:=(hv.pre hp0).all Fl.zero
    obtain⟨wl,wi,wd,_⟩:=(hw.pre hp0).all Fl.zero
    simp (disch:=omega) only [zA,zB,zC,zD,zF,zG,zH,↓reduceIte,hbx,vl,vi,vd,wl,wi,wd,hk,hky]
    refine FZ.use (F.radd H3 _ _ hb3) ?_
    have hlen:(evs cd ((lplus xs ys).take k)).length≤1000:=by simp;omega
    obtain⟨out',H5,e1,ho',hp',_⟩:=ho.app1 (by_:=8) hp.len (u:=nv (cd (Fl.add (xs.getD k Fl.zero) (ys.getD k Fl.zero)))) rfl (by omega) (by omega) (e2:=3)
    simp (disch:=(first|omega|(simp only [stLen]<;>omega)|(simp only [all_nv];done)|rfl)) only [zA,zB,zC,zD,zF,zG,zH,Nat.reduceEqDiff,Nat.reduceLT,Nat.reduceLeDiff,↓reduceIte,e1,hk]
    refine hJ _ _ _ ⟨rfl,hp' hp,?_⟩
    rw [List.take_succ_eq_append_getElem (by simp [lplus];omega)]
    simpa [lplus,List.getD_eq_getElem?_getD,List.getElem?_eq_getElem hk,List.getElem?_eq_getElem hky] using ho'
  · rintro out i H3 ⟨rfl,hp,ho⟩ J
    have hp0:=(Pre.new H _).trans hp
    obtain⟨vl,vi,vd,_⟩:=(hv.pre hp0).all Fl.zero
    simp (disch:=omega) only [zA,zB,zC,zD,zF,zG,zH,↓reduceIte,vl]
    rw [List.take_of_length_le (by simp [lplus];omega)] at ho
    exact⟨hp0,ho.mono (by simp)⟩
theorem ints_c {H:AH} {v w:Value} {xs ys:List Nat} (hv:Row H v (xs.map nv)) (hw:Row H w (ys.map nv)) (hx:xs.length≤100000) :
    FN Tryz.prog 145 [v,w] H (fun r H'=>r=.bool (decide (xs=ys))∧H'=H):=by
  refine g145_of ?_
  unfold g145
  obtain⟨vl,vi,vd,_⟩:=hv.all 0
  obtain⟨wl,wi,wd,_⟩:=hw.all 0
  by_cases hl:xs.length=ys.length
  · simp (disch:=omega) only [zA,zB,zC,zD,zF,zG,zH,↓reduceIte,vl,wl,hl]
    refine loopV1.ind (fun m i H'=>∃ k,i=nv k∧H'=H∧k+m=xs.length∧xs.take k=ys.take k) xs.length ⟨0,rfl,rfl,by omega,by simp⟩ ?_
    rintro m i _ ⟨k,rfl,rfl,hm,ht⟩ J hJ
    by_cases hk:k<ys.length
    · by_cases he:xs.getD k 0=ys.getD k 0
      · simp (disch:=omega) only [zA,zB,zC,zD,zF,zG,zH,↓reduceIte,vl,vi,vd,wl,wi,wd,hk,hl,he]
        exact hJ _ _ ⟨m-1,by omega,k+1,rfl,rfl,by omega,take_succ_eq 0 (by omega) hk ht he⟩
      · simp (disch:=omega) only [zA,zB,zC,zD,zF,zG,zH,↓reduceIte,vl,vi,vd,wl,wi,wd,hk,hl,he]
        rw [decide_eq_false]
        rintro rfl;exact he rfl
    · simp (disch:=omega) only [zA,zB,zC,zD,zF,zG,zH,↓reduceIte,vl,vi,vd,wl,wi,wd,hk,hl]
      rw [List.take_of_length_le (by omega),List.take_of_length_le (by omega)] at ht
      rw [decide_eq_true ht]
  · simp (disch:=omega) only [zA,zB,zC,zD,zF,zG,zH,↓reduceIte,vl,wl,hl]
    rw [decide_eq_false]
    rintro rfl;exact hl rfl
theorem rows_c {H:AH} {v w:Value} {xss yss:List (List Nat)} (hv:RowR H v (xss.map fun l=>l.map nv)) (hw:RowR H w (yss.map fun l=>l.map nv)) (hx:xss.length≤100000) (hx2:∀ l∈xss,l.length≤100000) :
    FN Tryz.prog 91 [v,w] H (fun r H'=>r=.bool (decide (xss=yss))∧H'=H):=by
  refine g91_of ?_
  unfold g91
  obtain⟨vs,hvs,hvl,hvr⟩:=hv.openN
  obtain⟨ws,hws,hwl,hwr⟩:=hw.openN
  obtain⟨vl,vi,vd,_⟩:=hvs.allV
  obtain⟨wl,wi,wd,_⟩:=hws.allV
  by_cases hl:xss.length=yss.length
  · simp (disch:=omega) only [zA,zB,zC,zD,zF,zG,zH,↓reduceIte,vl,wl,hvl,hwl,hl]
    refine loopV1.ind (fun m i H'=>∃ k,i=nv k∧H'=H∧k+m=xss.length∧xss.take k=yss.take k) xss.length ⟨0,rfl,rfl,by omega,by simp⟩ ?_
    rintro m i _ ⟨k,rfl,rfl,hm,ht⟩ J hJ
    by_cases hk:k<yss.length
    · have hk1:k<vs.length:=by omega
      have hk2:k<ws.length:=by omega
      have hk3:k<xss.length:=by omega
      simp (disch:=omega) only [zA,zB,zC,zD,zF,zG,zH,↓reduceIte,vl,vi,vd,wl,wi,wd,hk1,hk2]
      have hlen:(xss.getD k []).length≤100000:=by
        rw [List.getD_eq_getElem?_getD,List.getElem?_eq_getElem hk3];exact hx2 _ (List.getElem_mem hk3)
      refine FZ.use (ints_c (hvr k hk3) (hwr k hk) hlen) ?_
      by_cases he:xss.getD k []=yss.getD k []
      · simp (disch:=omega) only [zA,zB,zC,zD,zF,zG,zH,↓reduceIte,he]
        exact hJ _ _ ⟨m-1,by omega,k+1,rfl,rfl,by omega,take_succ_eq [] hk3 hk ht he⟩
      · simp (disch:=omega) only [zA,zB,zC,zD,zF,zG,zH,↓reduceIte,he]
        rw [decide_eq_false]
        rintro rfl;exact he rfl
    · have hk1:¬k<vs.length:=by omega
      simp (disch:=omega) only [zA,zB,zC,zD,zF,zG,zH,↓reduceIte,vl,hk1]
      rw [List.take_of_length_le (by omega),List.take_of_length_le (by omega)] at ht
      rw [decide_eq_true ht]
  · have hl1:¬vs.length=ws.length:=by omega
    simp (disch:=omega) only [zA,zB,zC,zD,zF,zG,zH,↓reduceIte,vl,wl,hl1]
    rw [decide_eq_false]
    rintro rfl;exact hl rfl
theorem evr_nv (xss:List (List α)):evr cd xss=(xss.map fun l=>l.map cd).map fun l=>l.map nv:=by simp [evs,Function.comp_def]
theorem evs_nv (xs:List α):evs cd xs=(xs.map cd).map nv:=by simp [evs,Function.comp_def]
end
end Go.Sim

namespace Go.Sim
open Go Go.Proofs
section
variable {α:Type} [Fl α] [DecidableEq α] {cd:α→Nat} {p e b c q:Nat} {blk:AB} {H:AH}
structure Spn (cd:α→Nat) (n0 sb:Nat) (vs:List Value) (op:Option Nat) (H:AH) (M:List (List α)):Prop where
  blk:H[sb]? = some (.cells vs 31 op false)
  rws:Rws H vs (evr cd M)
  low:∀ x∈vs,Lw.Lo n0 x
  sn:n0≤sb
theorem Spn.len {n0 sb:Nat} {vs:List Value} {op:Option Nat} {M:List (List α)} (h:Spn cd n0 sb vs op H M):vs.length=M.length:=by have:=h.rws.1;simpa using this
theorem Spn.row {n0 sb:Nat} {vs:List Value} {op:Option Nat} {M:List (List α)} (h:Spn cd n0 sb vs op H M) {k:Nat} (hk:k<M.length):Row H (vs.getD k undef) (evs cd (M.getD k [])):=by
  have:=h.rws.2 k (by simpa using hk)
  rwa [show ([]:List Value)=evs cd [] from rfl,getD_map_el] at this
theorem Spn.spine {n0 sb:Nat} {vs:List Value} {op:Option Nat} {M:List (List α)} (h:Spn cd n0 sb vs op H M) {l m:Nat} (hl:l=M.length) (hm:l≤m):Row H (.slice (some ⟨sb,0,none⟩) l m) vs:=Row.of h.blk (by rw [h.len,hl]) hm
theorem Spn.pre {n0 sb:Nat} {vs:List Value} {op:Option Nat} {M:List (List α)} (h:Spn cd n0 sb vs op H M) {H':AH} (hp:Pre H H'):Spn cd n0 sb vs op H' M:=⟨hp.get h.blk,h.rws.pre hp,h.low,h.sn⟩
theorem Spn.set {n0 sb:Nat} {vs:List Value} {op:Option Nat} {M:List (List α)} (h:Spn cd n0 sb vs op H M) {k:Nat} (hk:k<M.length) {w:Value} {xs:List α} (hw:Row H w (evs cd xs)) (hlo:Lw.Lo n0 w) :
    Spn cd n0 sb (vs.set k w) op (H.set sb (.cells (vs.set k w) 31 op false)) (M.set k xs):=by
  have hlt:=get_lt h.blk
  have hl:=h.len
  have hkeep:∀ r cs,Row H r cs→cs.all plain=true→Row (H.set sb (.cells (vs.set k w) 31 op false)) r cs:=fun r cs hr hc=>hr.keep hc h.blk h.rws.isSl fun b' _ hne=>List.getElem?_set_ne (Ne.symm hne)
  refine⟨List.getElem?_set_self hlt,⟨by simp [hl],fun j hj=>?_⟩,fun x hx=>?_,h.sn⟩
  · simp only [List.length_map,List.length_set] at hj
    rw [show ([]:List Value)=evs cd [] from rfl,getD_map_el,getD_set (by omega),getD_set hk]
    by_cases hjk:j=k
    · rw [if_pos hjk,if_pos hjk];exact hkeep _ _ hw (evs_plain _)
    · rw [if_neg hjk,if_neg hjk];exact hkeep _ _ (h.row hj) (evs_plain _)
  · rcases List.mem_or_eq_of_mem_set hx with hx|rfl
    · exact h.low x hx
    · exact hlo
theorem Spn.keep {n0 sb:Nat} {vs:List Value} {op:Option Nat} {M:List (List α)} (h:Spn cd n0 sb vs op H M) {r:Value} {xs:List α} (hr:Row H r (evs cd xs)) {y:AB}:Row (H.set sb y) r (evs cd xs):=hr.keep (evs_plain _) h.blk h.rws.isSl fun b' _ hne=>List.getElem?_set_ne (Ne.symm hne)
theorem Spn.ldB {n0 sb:Nat} {vs:List Value} {op:Option Nat} {M:List (List α)} (h:Spn cd n0 sb vs op H M) {k:Nat} (hk:k<vs.length):loadB none H[sb]? k=some (vs.getD k undef):=by
  rw [h.blk]
  simp [loadB,xpart,List.getD_eq_getElem?_getD,List.getElem?_eq_getElem hk]
theorem Spn.at_ {n0 sb:Nat} {vs:List Value} {op:Option Nat} {M:List (List α)} (h:Spn cd n0 sb vs op H M) {k:Nat} (hk:k<M.length):Lw.Lo n0 (vs.getD k undef):=h.low _ (getD_mem (by rw [h.len];exact hk))
theorem lsub_plus {xs ys:List α} {a:α}:lplus xs (ys.map (Fl.mul (Fl.neg a)))=lsub xs a ys:=by
  unfold lplus lsub
  rw [List.zipWith_map_right]
  congr 1
  funext x y
  have:Fl.mul (Fl.neg a) y=Fl.neg (Fl.mul a y):=by
    refine Fl.add_left_cancel (a:=Fl.mul a y) ?_
    rw [Fl.add_neg,←Fl.add_mul,Fl.add_neg,Fl.zero_mul]
  rw [this]
theorem RedTo.full {n col:Nat} {M:List (List α)} {P:List Nat} (h:RedTo n col M P) (hc:col≤n) (hl:P.length=M.length∨col=n):RedTo n n M P:=by
  rcases hl with hl|rfl
  · exact⟨h.len,h.width,fun i hi=>by have:=h.lt i hi;omega,h.inc,h.one,h.alone,h.lead,fun k j hk hm=>by omega⟩
  · exact h
theorem rreduce_c (F:FOK α cd p e b c q blk) {v:Value} {n:Nat} {rows:List (List α)} (hb:H[b]? = some blk) (hv:RowR H v (evr cd rows)) (hl:∀ x∈rows,x.length=n) (hR:rows.length≤400) (hn:n≤1000) (hn0:0<n) :
    FN Tryz.prog 61 [fldv p e b e c,nv n,v] H (fun r H'=>Pre H H'∧Lw.RowLo H.length H' r (evr cd (lreduce rows))):=by
  refine g61_of ?_
  unfold g61
  obtain⟨vs,hvs,hvl,hvr⟩:=hv.open
  simp (disch:=omega) only [zA,zB,zC,zD,zF,zG,zH,↓reduceIte]
  refine loopV2.nat rows.length (fun k out i H'=>i=nv k∧Pre (H++[fbx p e b c]) H'∧((∃ l,out=.slice (some ⟨l,0,none⟩) k k)∧Lw.AccLo (H++[fbx p e b c]) H' out (evr cd (rows.take k)) 31)) ⟨rfl,Pre.snoc _ _ _,⟨_,rfl⟩,?_⟩ ?_ ?_
  · refine⟨[],?_,⟨rfl,by simp⟩,by simp,by simp⟩
    have:=Own.new (H0:=H++[fbx p e b c]) (H:=H++[fbx p e b c]) (Nat.le_refl _) (cs:=[]) (e:=31) rfl (Y:=[])
    simpa using this.acc
  · rintro k out i H3 hk ⟨rfl,hp,⟨sb,rfl⟩,ho⟩ J hJ
    have hp0:=(Pre.new H _).trans hp
    obtain⟨vl,vi,vd,vd2⟩:=(hvs.pre hp0).allV
    have hk':k<vs.length:=by omega
    have hwk:=row_len hl hk
    have hne:evs cd (rows.getD k [])≠[]:=fun h=>by have h2:=congrArg List.length h;rw [List.length_map,hwk] at h2;simp at h2;omega
    have hcl:(evs cd (rows.getD k [])).length=n:=by rw [List.length_map,hwk]
    have hrow:=(hvr k hk).pre hp0
    obtain⟨w,H5,e1,ha,hp5,hl5⟩:=Acc.appR (H0:=H3) (H:=H3++[.cells [] 3 none false]) (by_:=8) (by simp) (Own.new (Nat.le_refl _) (cs:=[]) rfl (Y:=[])).acc ((hrow.pre (Pre.new H3 _)).x hne) (by simp [one]) (by rw [hcl];simp;omega) (by rw [hcl];simp;omega)
    simp only [List.length_nil,List.nil_append] at e1 ha
    have hp5':=hp5 (Pre.new _ _)
    have hp05:=hp.trans hp5'
    have hlo:Lw.Lo (H++[fbx p e b c]).length w:=fun a l c h=>Nat.le_trans hp.len (Lw.acc_lo ha _ _ _ h)
    obtain⟨out',H7,e2,ho',hp7,hl7⟩:=(ho.pre hp5').app1 (by_:=24) hp05.len ha.row hlo (evs_plain _) (by simp;omega) (by simp;omega) (e2:=31)
    simp (disch:=(first|omega|(simp only [stLen]<;>omega)|(simp only [all_nv];done)|rfl)) only [zA,zB,zC,zD,zF,zG,zH,Nat.reduceEqDiff,Nat.reduceLT,Nat.reduceLeDiff,↓reduceIte,vl,vi,vd,vd2,hk',e1,ha.row.fill,e2]
    refine hJ _ _ _ ⟨rfl,hp7 hp05,?_,?_⟩
    · obtain⟨ws,h1,h2,_⟩:=ho'
      have hwl:=h2.1
      simp at hwl
      rcases h1.own (by intro h;rw [h] at hwl;simp at hwl) with ⟨bb,_,rfl,_⟩
      exact⟨bb,by rw [hwl];simp;omega⟩
    · have e:evr cd (rows.take (k+1))=evr cd (rows.take k)++[evs cd (rows.getD k [])]:=by
        show List.map _ _=List.map _ _++_
        rw [List.take_succ_eq_append_getElem hk,List.map_append,getD_at hk];rfl
      rw [e];exact ho'
  · rintro out i H3 ⟨rfl,hp,⟨sb,rfl⟩,ho⟩ J
    obtain⟨vl,_,_,_⟩:=(hvs.pre ((Pre.new H _).trans hp)).allV
    rw [List.take_of_length_le (Nat.le_refl _)] at ho
    obtain⟨ws,ha,hr,_,hlow⟩:=ho
    have hs0:∃ op,Spn cd (H++[fbx p e b c]).length sb ws op H3 rows:=by
      rcases ha with ⟨_,h⟩|⟨bb,hb1,h,op,_,h2⟩
      · cases h
      · simp only [Value.slice.injEq,Option.some.injEq,Addr.mk.injEq] at h
        obtain⟨⟨rfl,_⟩,_⟩:=h
        exact⟨op,h2,hr,hlow,hb1⟩
    obtain⟨op,hs⟩:=hs0
    simp (disch:=omega) only [zA,zB,zC,zD,zF,zG,zH,↓reduceIte,vl,hvl]
    have hsb:=get_lt hs.blk
    have hbx:H3[H.length]? = some (fbx p e b c):=hp.get (by simp)
    refine loopV2.ind (fun m r c' H'=>∃ col ws M P op,c'=nv col∧r=nv P.length∧col+m=n∧Pre (H++[fbx p e b c]) H'∧Spn cd (H++[fbx p e b c]).length sb ws op H' M∧RedTo n col M P∧M.length=rows.length∧(∀ u,LSpan M u↔LSpan rows u)) n
      ⟨0,ws,rows,[],op,rfl,rfl,by omega,hp,hs,RedTo.start hl,rfl,fun _=>Iff.rfl⟩ ?_
    clear hs hsb hbx hr hlow ha hp
    rintro m r c' H4 ⟨col,ws,M,P,op,rfl,rfl,hm,hp,hs,hr,hMl,hsp⟩ J hJ
    have hbx:H4[H.length]? = some (fbx p e b c):=hp.get (by simp)
    have hp0:=(Pre.new H _).trans hp
    have hb4:=hp0.get hb
    have hPl:=hr.len
    have hspine:=hs.spine (l:=rows.length) (m:=rows.length) hMl.symm (Nat.le_refl _)
    have hwl:=hs.len
    obtain⟨sl,si,sd,_⟩:=hspine.allV
    by_cases hcn:col<n
    · by_cases hPr:P.length<M.length
      · have hPw:P.length<ws.length:=by omega
        simp (disch:=omega) only [zA,zB,zC,zD,zF,zG,zH,↓reduceIte,hcn,sl,hPw]
        refine joinV1.via (fun r' H'=>∃ ws' M' P' op',r'=nv P'.length∧Pre (H++[fbx p e b c]) H'∧Spn cd (H++[fbx p e b c]).length sb ws' op' H' M'∧RedTo n (col+1) M' P'∧M'.length=rows.length∧(∀ u,LSpan M' u↔LSpan rows u)) ?_ ?_
        · intro J2 hJ2
          refine loopV1.ind (fun m i H'=>∃ k,i=nv k∧H'=H4∧P.length≤k∧k+m=M.length∧∀ j,P.length≤j→j<k→ent M j col=Fl.zero) (M.length-P.length) ⟨P.length,rfl,rfl,Nat.le_refl _,by omega,fun k h1 h2=>by omega⟩ ?_
          rintro m2 i8 H4 ⟨i,rfl,rfl,hi1,hi2,hi3⟩ J3 hJ3
          by_cases him:i<M.length
          · have hiw:i<ws.length:=by omega
            have hcw:col<(M.getD i []).length:=by rw [row_len hr.width him];omega
            obtain⟨rl,ri,rd,_⟩:=(hs.row him).all Fl.zero
            by_cases he:ent M i col=Fl.zero
            · have he0:cd ((M.getD i []).getD col Fl.zero)=0:=(F.eq0 _).2 he
              simp (disch:=omega) only [zA,zB,zC,zD,zF,zG,zH,↓reduceIte,sl,si,sd,hiw,ri,rd,hcw,he0]
              refine hJ3 _ _ ⟨m2-1,by omega,i+1,rfl,rfl,by omega,by omega,fun k h1 h2=>?_⟩
              by_cases hki:k=i
              · rw [hki];exact he
              · exact hi3 k h1 (by omega)
            · have he0:¬cd ((M.getD i []).getD col Fl.zero)=0:=fun hh=>he ((F.eq0 _).1 hh)
              have hne2:¬i=ws.length:=by omega
              have hst:=hr.step him hi1 he
              have hspn:=step_span (n:=n) hr.width hPr him he
              have hs2:=hs.set him (hs.row hPr) (hs.at_ hPr)
              have st1:=st_cell (v:=ws.getD P.length undef) hs.blk hiw (hs.row hPr).cells (hs.row hPr).one
              have ptr1:ptrAt (.slice (some ⟨sb,0,none⟩) rows.length rows.length) i=.pointer (some ⟨sb,i,none⟩):=by simp [ptrAt]
              have ptr2:ptrAt (.slice (some ⟨sb,0,none⟩) rows.length rows.length) P.length=.pointer (some ⟨sb,P.length,none⟩):=by simp [ptrAt]
              have hsbn:=hs.sn
              simp (disch:=omega) only [zA,zB,zC,zD,zF,zG,zH,↓reduceIte,sl,si,sd,hiw,hPw,ri,rd,hcw,he0,hne2]
              simp (disch:=omega) only [zA,zB,zC,zD,zF,zG,zH,↓reduceIte,ptr1,st1]
              have hp5:=hp.set (b:=sb) hs.sn (.cells (ws.set i (ws.getD P.length undef)) 31 op false)
              have hx5:=hs.keep (y:=.cells (ws.set i (ws.getD P.length undef)) 31 op false) (hs.row him)
              obtain⟨H5,hH5⟩:∃ H5,H5=H4.set sb (.cells (ws.set i (ws.getD P.length undef)) 31 op false):=⟨_,rfl⟩
              rw [←hH5] at hs2 hp5 hx5 ⊢
              have hbx5:H5[H.length]? = some (fbx p e b c):=hp5.get (by simp)
              have hb5:=((Pre.new H _).trans hp5).get hb
              obtain⟨_,ri5,rd5,_⟩:=hx5.all Fl.zero
              simp (disch:=omega) only [zA,zB,zC,zD,zF,zG,zH,↓reduceIte,hbx5,ri5,rd5,hcw]
              refine FZ.use (F.rinv _ _ hb5 he) ?_
              simp (disch:=omega) only [zA,zB,zC,zD,zF,zG,zH,↓reduceIte,hbx5]
              refine FZ.mono (rtimes_c F hb5 hx5 (by rw [row_len hr.width him];omega)) ?_
              rintro w6 H6 ⟨hp6,ha6⟩
              have hs6:=hs2.pre hp6
              have hp06:=hp5.trans hp6
              have hrw:P.length<(ws.set i (ws.getD P.length undef)).length:=by rw [List.length_set];exact hPw
              have st2:=st_cell hs6.blk hrw ha6.row.cells ha6.row.one
              have hlo6:Lw.Lo (H++[fbx p e b c]).length w6:=fun a l c h=>Nat.le_trans hp5.len (Lw.acc_lo ha6 _ _ _ h)
              have hs7:=hs6.set (k:=P.length) (by rw [List.length_set];exact hPr) ha6.row hlo6
              have hp7:=hp06.set (b:=sb) hs.sn (.cells ((ws.set i (ws.getD P.length undef)).set P.length w6) 31 op false)
              have hfront:(M.set i (M.getD P.length [])).set P.length ((M.getD i []).map (Fl.mul (Fl.inv (ent M i col))))=lfront P.length i col M:=by unfold lfront;rw [List.set_set]
              change Spn cd _ sb _ op _ ((M.set i (M.getD P.length [])).set P.length ((M.getD i []).map (Fl.mul (Fl.inv (ent M i col))))) at hs7
              rw [hfront] at hs7
              simp (disch:=omega) only [zA,zB,zC,zD,zF,zG,zH,↓reduceIte,si,hPw,ptr2,st2]
              obtain⟨H7,hH7⟩:∃ H7,H7=H6.set sb (.cells ((ws.set i (ws.getD P.length undef)).set P.length w6) 31 op false):=⟨_,rfl⟩
              rw [←hH7] at hs7 hp7 ⊢
              have hNl:(lfront P.length i col M).length=M.length:=lfront_length
              have hNw:∀ k,k<M.length→((lfront P.length i col M).getD k []).length=n:=fun k hk=>lfront_width hr.width hPr him hk
              have hEl:=lelim_length P.length col (lfront P.length i col M)
              have hEg:=fun k hk=>lelim_getD (r:=P.length) (col:=col) (M:=lfront P.length i col M) (k:=k) hk
              obtain⟨N,hN⟩:∃ N,N=lfront P.length i col M:=⟨_,rfl⟩
              rw [←hN] at hs7 hNl hNw hEl hEg hst hspn
              obtain⟨E,hE⟩:∃ E,E=lelim P.length col N:=⟨_,rfl⟩
              rw [←hE] at hEl hEg hst hspn
              have hNr:∀ k,k<N.length→k≠P.length→E.getD k []=lsub (N.getD k []) (ent N k col) (N.getD P.length []):=fun k hk hkr=>by rw [hEg k hk,if_neg hkr]
              have hNrr:E.getD P.length []=N.getD P.length []:=by rw [hEg _ (by omega),if_pos rfl]
              refine loopV1.nat M.length (fun k j H'=>j=nv k∧Pre (H++[fbx p e b c]) H'∧∃ us,Spn cd (H++[fbx p e b c]).length sb us op H' (E.take k++N.drop k)) ⟨rfl,hp7,_,by simpa using hs7⟩ ?_ ?_
              · rintro k j H8 hkm ⟨rfl,hp8,us,hs8⟩ J4 hJ4
                have hCl:(E.take k++N.drop k).length=M.length:=by simp;omega
                have hCk:=pre_get [] N E k (by omega)
                have hpre:=pre_set [] N E k (by omega) (by omega)
                have hul:=hs8.len
                have hku:k<us.length:=by omega
                have hPu:P.length<us.length:=by omega
                have hCr:(E.take k++N.drop k).getD P.length []=N.getD P.length []:=by
                  simp only [List.getD_eq_getElem?_getD]
                  by_cases hlt:P.length<k
                  · rw [List.getElem?_append_left (by simp;omega),List.getElem?_take_of_lt hlt]
                    simpa [List.getD_eq_getElem?_getD] using hNrr
                  · rw [List.getElem?_append_right (by simp;omega)]
                    simp only [List.length_take,List.getElem?_drop]
                    congr 2
                    omega
                obtain⟨tl,ti,td,_⟩:=(hs8.spine (l:=rows.length) (m:=rows.length) (by omega) (Nat.le_refl _)).allV
                by_cases hkr:k=P.length
                · subst hkr
                  simp (disch:=omega) only [zA,zB,zC,zD,zF,zG,zH,↓reduceIte,tl,hPu]
                  refine hJ4 _ _ ⟨rfl,hp8,us,?_⟩
                  rw [←hpre,hNrr,←hCr]
                  have:∀ (L:List (List α)) (k:Nat),k<L.length→L.set k (L.getD k [])=L:=fun L k hL=>by
                    refine List.ext_getElem (by simp) fun l h1 h2=>?_
                    by_cases hlk:k=l
                    · subst hlk;simp [List.getD_eq_getElem?_getD,List.getElem?_eq_getElem h2]
                    · simp [List.getElem_set_ne hlk]
                  rw [this _ _ (by rw [hCl];exact hkm)]
                  exact hs8
                · have hbx8:H8[H.length]? = some (fbx p e b c):=hp8.get (by simp)
                  have hb8:=((Pre.new H _).trans hp8).get hb
                  have hk8:k<(E.take k++N.drop k).length:=by omega
                  have hP8:P.length<(E.take k++N.drop k).length:=by omega
                  have hrowk:=hs8.row hk8
                  rw [hCk] at hrowk
                  have hrowr:=hs8.row hP8
                  rw [hCr] at hrowr
                  have hkw:=hNw k (by omega)
                  have hck:col<(N.getD k []).length:=by omega
                  obtain⟨_,ri8,rd8,_⟩:=hrowk.all Fl.zero
                  simp (disch:=omega) only [zA,zB,zC,zD,zF,zG,zH,↓reduceIte,tl,hku,hkr,hbx8]
                  refine joinV0.intro fun J5 hJ5=>?_
                  have b1:=hs8.ldB hku
                  have b2:=hs8.ldB hPu
                  simp (disch:=omega) only [zA,zB,zC,zD,zF,zG,zH,↓reduceIte,hbx8,b1,b2,hPu,ri8,rd8,hck]
                  refine FZ.use (F.rneg _ _ hb8) ?_
                  simp (disch:=omega) only [zA,zB,zC,zD,zF,zG,zH,↓reduceIte,hbx8,b1,b2]
                  refine FZ.mono (rtimes_c F hb8 hrowr (by rw [hNw _ hPr];omega)) ?_
                  rintro w9 H9 ⟨hp9,ha9⟩
                  have hbx9:=hp9.get hbx8
                  have hb9:=hp9.get hb8
                  have hs9:=hs8.pre hp9
                  obtain⟨tl9,ti9,td9,_⟩:=(hs9.spine (l:=rows.length) (m:=rows.length) (by omega) (Nat.le_refl _)).allV
                  have b3:=hs9.ldB hku
                  simp (disch:=omega) only [zA,zB,zC,zD,zF,zG,zH,Nat.reduceEqDiff,Nat.reduceLT,Nat.reduceLeDiff,↓reduceIte,hbx9,b3]
                  refine FZ.mono (rplus_c F hb9 (hrowk.pre hp9) ha9.row (by rw [List.length_map,hkw,hNw _ hPr]) (by omega)) ?_
                  rintro w10 H10 ⟨hp10,ha10⟩
                  have hp910:=hp9.trans hp10
                  have hs10:=hs8.pre hp910
                  rw [lsub_plus] at ha10
                  have hlo10:Lw.Lo (H++[fbx p e b c]).length w10:=fun a l c h=>Nat.le_trans (hp8.trans hp9).len (Lw.acc_lo ha10 _ _ _ h)
                  have st3:=st_cell hs10.blk hku ha10.row.cells ha10.row.one
                  have hs11:=hs10.set hk8 ha10.row hlo10
                  have ptr3:ptrAt (.slice (some ⟨sb,0,none⟩) rows.length rows.length) k=.pointer (some ⟨sb,k,none⟩):=by simp [ptrAt]
                  simp (disch:=omega) only [zA,zB,zC,zD,zF,zG,zH,↓reduceIte,ti,hku,ptr3,st3]
                  refine hJ5 _ ?_
                  simp (disch:=omega) only [zA,zB,zC,zD,zF,zG,zH,↓reduceIte]
                  refine hJ4 _ _ ⟨rfl,(hp8.trans hp910).set hs.sn _,us.set k w10,?_⟩
                  have hEk:=hNr k (by omega) hkr
                  change E.getD k []=lsub (N.getD k []) ((N.getD k []).getD col Fl.zero) (N.getD P.length []) at hEk
                  rw [←hEk,hpre] at hs11
                  exact hs11
              · rintro j H8 ⟨rfl,hp8,us,hs8⟩ J4
                rw [List.take_of_length_le (by omega),List.drop_of_length_le (by omega),List.append_nil] at hs8
                have hul:=hs8.len
                obtain⟨tl,_,_,_⟩:=(hs8.spine (l:=rows.length) (m:=rows.length) (by omega) (Nat.le_refl _)).allV
                have hnu:¬M.length<us.length:=by omega
                simp (disch:=omega) only [zA,zB,zC,zD,zF,zG,zH,↓reduceIte,tl,hnu]
                exact hJ2 _ _ ⟨us,E,P++[col],op,by simp,hp8,hs8,hst,by omega,fun u=>(hspn u).trans (hsp u)⟩
          · have hnw:¬i<ws.length:=by omega
            have hme:i=ws.length:=by omega
            simp (disch:=omega) only [zA,zB,zC,zD,zF,zG,zH,↓reduceIte,sl,hnw,hme]
            exact hJ2 _ _ ⟨ws,M,P,op,rfl,hp,hs,hr.skip fun k h1 h2=>hi3 k h1 (by omega),hMl,hsp⟩
        · rintro r' H5 ⟨ws',M',P',op',rfl,h1,h2,h3,h4,h5⟩
          simp (disch:=omega) only [zA,zB,zC,zD,zF,zG,zH,↓reduceIte]
          exact hJ _ _ _ ⟨m-1,by omega,col+1,ws',M',P',op',rfl,rfl,by omega,h1,h2,h3,h4,h5⟩
      · have hPw:¬P.length<ws.length:=by omega
        simp (disch:=omega) only [zA,zB,zC,zD,zF,zG,zH,↓reduceIte,hcn,sl,hPw]
        have hfull:=hr.full (by omega) (.inl (by omega))
        obtain⟨d1,d2⟩:=hfull.done
        have hres:M.take P.length=lreduce rows:=by
          obtain⟨h1,h2,_⟩:=lreduce_red hl
          exact d1.unique h1 fun u=>(d2 u).trans ((hsp u).trans (h2 u).symm)
        have hPle:P.length≤rows.length:=by omega
        simp (disch:=omega) only [zA,zB,zC,zD,zF,zG,zH,↓reduceIte,xp_slShi,hPle]
        refine⟨hp0,ws.take P.length,RowX.of_take hs.blk (by omega) hPle,?_,?_,?_⟩
        · rw [←hres]
          refine⟨by simp;omega,fun k hk=>?_⟩
          have hk':k<P.length:=by simp at hk;omega
          have e1:(ws.take P.length).getD k undef=ws.getD k undef:=by simp [List.getD_eq_getElem?_getD,List.getElem?_take_of_lt hk']
          have e2:(evr cd (M.take P.length)).getD k []=evs cd (M.getD k []):=by
            rw [show ([]:List Value)=evs cd [] from rfl,getD_map_el]
            simp [List.getD_eq_getElem?_getD,List.getElem?_take_of_lt hk']
          rw [e1,e2]
          exact hs.row (by omega)
        · intro a l c h;cases h;have:=hs.sn;simp at this ⊢;omega
        · intro x hx a l c h;have:=hs.low x (List.mem_of_mem_take hx) a l c h;simp at this;omega
    · simp (disch:=omega) only [zA,zB,zC,zD,zF,zG,zH,↓reduceIte,hcn]
      have hfull:=hr.full (by omega) (.inr (by omega))
      obtain⟨d1,d2⟩:=hfull.done
      have hres:M.take P.length=lreduce rows:=by
        obtain⟨h1,h2,_⟩:=lreduce_red hl
        exact d1.unique h1 fun u=>(d2 u).trans ((hsp u).trans (h2 u).symm)
      have hPle:P.length≤rows.length:=by omega
      simp (disch:=omega) only [zA,zB,zC,zD,zF,zG,zH,↓reduceIte,xp_slShi,hPle]
      refine⟨hp0,ws.take P.length,RowX.of_take hs.blk (by omega) hPle,?_,?_,?_⟩
      · rw [←hres]
        refine⟨by simp;omega,fun k hk=>?_⟩
        have hk':k<P.length:=by simp at hk;omega
        have e1:(ws.take P.length).getD k undef=ws.getD k undef:=by simp [List.getD_eq_getElem?_getD,List.getElem?_take_of_lt hk']
        have e2:(evr cd (M.take P.length)).getD k []=evs cd (M.getD k []):=by
          rw [show ([]:List Value)=evs cd [] from rfl,getD_map_el]
          simp [List.getD_eq_getElem?_getD,List.getElem?_take_of_lt hk']
        rw [e1,e2]
        exact hs.row (by omega)
      · intro a l c h;cases h;have:=hs.sn;simp at this ⊢;omega
      · intro x hx a l c h;have:=hs.low x (List.mem_of_mem_take hx) a l c h;simp at this;omega
end
end Go.Sim

namespace Go.Sim
open Fl
section
variable {α:Type} [Fl α] [DecidableEq α]
theorem lred_self {n:Nat} {G:List (List α)} (h:LRed n G):lreduce G=G:=by
  have hl:∀ x∈G,x.length=n:=fun x hx=>h.piv.1 x hx
  obtain⟨a1,a2,_⟩:=lreduce_red hl
  exact LRed.unique a1 h a2
def pick (n:Nat) (p:Nat→Nat) (x:List α):List α:=(List.range n).map fun j=>x.getD (p j) Fl.zero
end
end Go.Sim

namespace Go.Sim
open Fl
section
variable {α:Type} [Fl α] [DecidableEq α]
theorem LRed.len {n:Nat} {G:List (List α)} (h:LRed n G):∀ x∈G,x.length=n:=fun x hx=>h.piv.1 x hx
end
end Go.Sim

namespace Go.Sim
open Go Go.Proofs
theorem Lw.RowLo.mono {m n:Nat} {H:AH} {v:Value} {css:List (List Value)} (h:Lw.RowLo n H v css) (hm:m≤n):Lw.RowLo m H v css:=by
  obtain⟨vs,h1,h2,h3,h4⟩:=h
  exact⟨vs,h1,h2,fun a l c e=>Nat.le_trans hm (h3 a l c e),fun x hx a l c e=>Nat.le_trans hm (h4 x hx a l c e)⟩
theorem Lw.RowLo.pre {n:Nat} {H H':AH} {v:Value} {css:List (List Value)} (h:Lw.RowLo n H v css) (hp:Pre H H'):Lw.RowLo n H' v css:=by
  obtain⟨vs,h1,h2,h3,h4⟩:=h
  exact⟨vs,h1.pre hp,h2.pre hp,h3,h4⟩
theorem Lw.RowLo.one {n:Nat} {H:AH} {v:Value} {css:List (List Value)} (h:Lw.RowLo n H v css):one v=true:=by obtain⟨_,h,_⟩:=h;exact h.1.one
theorem Lw.RowLo.fill {n:Nat} {H:AH} {v:Value} {css:List (List Value)} (h:Lw.RowLo n H v css):∀ (c:List Value) (off:Nat) (pl:List (Nat×Nat)) (vs:List Value),off<c.length→xfill c ((off,1) :: pl) (v :: vs)=xfill (c.set off v) pl vs:=by obtain⟨_,h,_⟩:=h;exact h.1.fill
theorem RowR.one' {H:AH} {v:Value} {css:List (List Value)} (h:RowR H v css):one v=true:=by obtain⟨_,h,_⟩:=h;exact h.1.one
section
variable {α:Type} [Fl α] [DecidableEq α] {cd:α→Nat} {p e b c q:Nat} {blk:AB} {H:AH}
theorem preduce_rowsLo {n n0 mb sb:Nat} {bs:List Nat} {M':List (List α)} {k:Nat} (h:Mat cd p e b c n mb sb bs H M') (hk:k≤M'.length) (h1:n0≤sb) (h2:∀ x∈bs,n0≤x):Lw.RowLo n0 H (.slice (some ⟨sb,0,none⟩) k bs.length) (evr cd (M'.take k)):=by
  obtain⟨op,ho⟩:=h.spine
  have hl:=h.len
  refine⟨_,RowX.of_take ho (by simp;omega) (by omega),⟨by simp;omega,fun j hj=>?_⟩,(by rintro a l c e;cases e;exact h1),fun x hx a l c e=>?_⟩
  · have hj':j<k:=by simp at hj;omega
    have hr:=h.row j (by omega)
    have e1:((bs.map (rsl n)).take k).getD j undef=rsl n (bs.getD j 0):=by
      simp [List.getD_eq_getElem?_getD,List.getElem?_take_of_lt hj',List.getElem?_eq_getElem (show j<bs.length by omega)]
    have e2:(evr cd (M'.take k)).getD j []=evs cd (M'.getD j []):=by
      simp [List.getD_eq_getElem?_getD,List.getElem?_take_of_lt hj',List.getElem?_eq_getElem (show j<M'.length by omega)]
    rw [e1,e2]
    exact Row.of hr (by rw [List.length_map,row_len h.width (by omega)]) (Nat.le_refl _)
  · obtain⟨y,hy,rfl⟩:=List.mem_map.1 (List.mem_of_mem_take hx)
    cases e;exact h2 y hy
theorem reduce_lo (F:FOK α cd p e b c q blk) {v:Value} {n:Nat} {M:List (List α)} (hb:H[b]? = some blk) (hv:RowR H v (evr cd M)) (hl:∀ x∈M,x.length=n) (hM:M.length≤1000) (hn:n≤1000) (hn0:0<n) :
    FN Tryz.prog 173 [fldv p e b e c,v] H (fun r H'=>Pre H H'∧Lw.RowLo H.length H' r (evr cd (lreduce M))):=by
  refine g173_of ?_
  unfold g173
  have hp1:=Pre.new H [fbx p e b c]
  simp (disch:=omega) only [zA,zB,zC,zD,zF,zG,zH,↓reduceIte]
  refine FZ.mono (of_c F (hv.pre hp1) hl hM hn hn0) ?_
  rintro m H2 ⟨hp2,mb,rfl,hmb,hm⟩
  have hp02:=hp1.trans hp2
  have hb2:=hp02.get hb
  rcases hm with ⟨rfl,hm⟩|⟨hM0,sb,bs,hm,hnew⟩
  · simp (disch:=omega) only [zA,zB,zC,zD,zF,zG,zH,↓reduceIte,hm]
    refine FZ.use (width_c (hv.pre hp02) hl) ?_
    simp (disch:=omega) only [zA,zB,zC,zD,zF,zG,zH,↓reduceIte,hm]
    refine FZ.use (preduce0_c hm (by simp)) ?_
    simp (disch:=omega) only [zA,zB,zC,zD,zF,zG,zH,↓reduceIte,hm]
    have e1:xpure (.slS 1 false true) [.slice none 0 0,nv 0]=some (.slice none 0 0):=rfl
    simp (disch:=omega) only [zA,zB,zC,zD,zF,zG,zH,↓reduceIte,e1]
    exact⟨hp02,[],⟨Row.nil,rfl⟩,⟨rfl,by simp [lreduce]⟩,(by rintro a l c e;cases e),by simp⟩
  · have v0:=hm.var
    have hbn:b∉mb :: sb :: bs:=fun hx=>by have:=hnew b hx;have:=get_lt hb;simp at *;omega
    simp (disch:=omega) only [zA,zB,zC,zD,zF,zG,zH,↓reduceIte,v0]
    refine FZ.use (width_c (hv.pre hp02) hl) ?_
    rw [if_neg hM0]
    simp (disch:=omega) only [zA,zB,zC,zD,zF,zG,zH,↓reduceIte,v0]
    refine FZ.mono (preduce_c F hb2 hbn hm hM hn (Nat.le_refl n) (List.length_pos_iff.2 hM0)) ?_
    rintro piv H4 ⟨bs',M',P,hm4,hr4,hl4,hs4,ha4,hf4,hsub4,hlen4⟩
    have v4:=hm4.var
    have hbl:bs'.length=bs.length:=by have:=hm4.len;have:=hm.len;omega
    rw [hbl] at v4
    have hpl:xpure .lenS [piv]=some (nv P.length):=by have:=ha4.row.len;simpa using this
    have hPl:=hr4.len
    have hbm:=hm.len
    have hPb:P.length≤bs.length:=by omega
    simp (disch:=omega) only [zA,zB,zC,zD,zF,zG,zH,↓reduceIte,v4,hpl,xp_slShi,hPb]
    have hres:=preduce_rowsLo hm4 (k:=P.length) (n0:=H.length) hPl (by have:=hnew sb (by simp);simp at this;omega) (fun x hx=>by have:=hnew x (by simp [hsub4 x hx]);simp at this;omega)
    rw [hbl,reduced_eq hl hr4 hs4] at hres
    refine⟨fun x hx=>?_,hres⟩
    have hxn:x∉mb :: sb :: bs:=fun hx2=>by have:=hnew x hx2;simp at this;omega
    rw [hf4 x (by have:=hp02.len;omega) hxn,hp02 x hx]
theorem mmade_c (Q:FQ α cd p e q blk) {v:Value} {n:Nat} {M:List (List α)} (hv:RowR H v (evr cd M)) (hl:∀ x∈M,x.length=n) (hM:M.length≤1000) (hn:n≤1000) (hn0:0<n) :
    FN Tryz.prog 112 [nv q,nv n,v] H (fun r H'=>Pre H H'∧∃ w,r=.tuple [codv q n w,nv 0].toArray∧Lw.RowLo H.length H' w (evr cd (lreduce M))):=by
  refine g112_of ?_
  unfold g112
  simp (disch:=omega) only [zA,zB,zC,zD,zF,zG,zH,↓reduceIte]
  refine FZ.use (Q.make _) ?_
  have s3:=stB_three (H:=H++[.cells [nv 0,nv 0,.slice none 0 0] 29 none false,blk,.cells [nv 0,nv 0,.slice none 0 0] 76 none false]) (bl:=H.length+2) (x:=nv p) (y:=nv e) (z:=.slice (some ⟨H.length+1,0,none⟩) e e) (c0:=nv 0) (c1:=nv 0) (c2:=.slice none 0 0) (e:=76) (op:=none) rfl rfl rfl
  have e3:(H++[.cells [nv 0,nv 0,.slice none 0 0] 29 none false,blk,.cells [nv 0,nv 0,.slice none 0 0] 76 none false]).set (H.length+2) (.cells [nv p,nv e,.slice (some ⟨H.length+1,0,none⟩) e e] 76 none false)=H++[.cells [nv 0,nv 0,.slice none 0 0] 29 none false,blk,fbx p e (H.length+1) e]:=by
    rw [List.set_append_right _ _ (by omega)];simp
  rw [e3] at s3
  simp (disch:=omega) only [zA,zB,zC,zD,zF,zG,zH,↓reduceIte,s3]
  have hp1:=Pre.new H [.cells [nv 0,nv 0,.slice none 0 0] 29 none false,blk,fbx p e (H.length+1) e]
  refine FZ.mono (reduce_lo (Q.ok (H.length+1)) (by simp) (hv.pre hp1) hl hM hn hn0) ?_
  rintro w H5 ⟨hp5,hw⟩
  have hc5:H5[H.length]? = some (.cells [nv 0,nv 0,.slice none 0 0] 29 none false):=hp5.get (by simp)
  have s5:=stB_three (H:=H5) (bl:=H.length) (x:=nv q) (y:=nv n) (z:=w) (c0:=nv 0) (c1:=nv 0) (c2:=.slice none 0 0) (e:=29) (op:=none) rfl rfl hw.one
  have hlt:=get_lt hc5
  have g5:(H5.set H.length (.cells [nv q,nv n,w] 29 none false))[H.length]? = some (.cells [nv q,nv n,w] 29 none false):=List.getElem?_set_self hlt
  simp (disch:=(first|omega|(simp only [stLen]<;>omega)|(simp only [all_nv];done)|rfl)) only [zA,zB,zC,zD,zF,zG,zH,Nat.reduceEqDiff,Nat.reduceLT,Nat.reduceLeDiff,↓reduceIte,hw.fill,hc5,s5,g5]
  refine⟨(hp1.trans hp5).set (Nat.le_refl _) _,w,rfl,?_⟩
  exact (hw.setLow (by simp)).mono (by simp)
end
end Go.Sim

namespace Go.Sim
open Go Go.Proofs
section
variable {α:Type} [Fl α] [DecidableEq α] {cd:α→Nat} {p e b c q:Nat} {blk:AB} {H:AH}
theorem evr_get {G:List (List α)} (k:Nat):(evr cd G).getD k []=evs cd (G.getD k []):=by
  rw [show ([]:List Value)=evs cd [] from rfl,getD_map_el]
theorem each_e {v:Value} {G:List (List α)} {F:Nat} {cap:Array Value} {T:List α→List α} (hv:RowR H v (evr cd G)) (hn:G.length≤100000)
    (hF:∀ x∈G,∀ (w:Value) (H1:AH),Pre H H1→Row H1 w (evs cd x)→FN Tryz.prog F (w :: cap.toList) H1 (fun r H2=>Pre H1 H2∧Row H2 r (evs cd (T x)))) :
    FN Tryz.prog 113 [v,.func (.func F) #[] cap] H (fun r H'=>Pre H H'∧RowR H' r (evr cd (G.map T))):=by
  refine (each_c (Ts:=evr cd (G.map T)) hv (by simp) (by simpa using hn) (fun t ht=>?_) fun k w H1 hk hp hw=>?_).mono fun r H' h=>⟨h.1,h.2.rowR⟩
  · obtain⟨x,_,rfl⟩:=List.mem_map.1 ht;exact evs_plain _
  · have hk':k<G.length:=by simpa using hk
    rw [evr_get] at hw
    have e1:(evr cd (G.map T)).getD k []=evs cd (T (G.getD k [])):=by
      rw [evr_get]
      simp [List.getD_eq_getElem?_getD,List.getElem?_eq_getElem hk']
    rw [e1]
    exact hF _ (getD_mem hk') w H1 hp hw
theorem xp_fn1 {g:Nat} {x:Value}:xpure (.fn g 0 1) [x]=some (.func (.func g) #[] #[x]):=rfl
theorem xp_fn2 {g:Nat} {x y:Value}:xpure (.fn g 0 2) [x,y]=some (.func (.func g) #[] #[x,y]):=rfl
def RetC (cd:α→Nat) (q n:Nat) (G:List (List α)) (H:AH) (r:Value) (H':AH):Prop:=Pre H H'∧∃ w,r=.tuple [codv q n w,nv 0].toArray∧Lw.RowLo H.length H' w (evr cd G)
def RetG (cd:α→Nat) (q n:Nat) (G:List (List α)) (H:AH) (r:Value) (H':AH):Prop:=Pre H H'∧∃ w,r=gotv q n w 0∧Lw.RowLo H.length H' w (evr cd G)
end
end Go.Sim

namespace Go.Sim
open Go Go.Proofs
section
variable {α:Type} [Fl α] [DecidableEq α] {cd:α→Nat} {p e b c q:Nat} {blk:AB} {H:AH}
theorem RowR.fill {H:AH} {v:Value} {css:List (List Value)} (h:RowR H v css):∀ (c:List Value) (off:Nat) (pl:List (Nat×Nat)) (vs:List Value),off<c.length→xfill c ((off,1) :: pl) (v :: vs)=xfill (c.set off v) pl vs:=by obtain⟨_,h,_⟩:=h;exact h.1.fill
theorem evs_zeros (F:FOK α cd p e b c q blk) (n:Nat):(List.replicate n 0).map nv=evs cd (List.replicate n (Fl.zero:α)):=by simp [evs,F.zero]
theorem all2_c {v w:Value} {A B:List (List α)} {bl:Nat} {et:TypeId} {op:Option Nat} (hb:H[bl]? = some (.cells [v,w] et op false)) (hv:RowR H v (evr cd A)) (hw:RowR H w (evr cd B)) (hA:A.length≤10000) (hB:B.length≤10000) :
    FN Tryz.prog 124 [.slice (some ⟨bl,0,none⟩) 2 2] H (fun r H'=>Pre H H'∧RowR H' r (evr cd (A++B))):=by
  refine g124_of ?_
  unfold g124
  simp (disch:=omega) only [zA,zB,zC,zD,zF,zG,zH,↓reduceIte]
  obtain⟨vs,hvs,hv2⟩:=hv
  obtain⟨ws,hws,hw2⟩:=hw
  have hl1:vs.length=A.length:=by simpa using hv2.1
  have hl2:ws.length=B.length:=by simpa using hw2.1
  have one_of:∀ {us:List Value} {css:List (List Value)},Rws H us css→us.all one=true:=fun h=>by
    rw [List.all_eq_true]
    intro x hx
    obtain⟨k,hk,rfl⟩:=List.mem_iff_getElem.1 hx
    have:=(h.2 k (by rw [←h.1];exact hk)).one
    simpa [List.getD_eq_getElem?_getD,List.getElem?_eq_getElem hk] using this
  refine FZ.mono (concatR_c (vs:=[v,w]) (uss:=[vs,ws]) (Row.of hb rfl (Nat.le_refl _)) rfl (fun k hk=>?_) ?_ (by simp;omega) (by simp)) ?_
  · simp at hk
    rcases k with _|_|k
    · exact hvs
    · exact hws
    · omega
  · simp only [List.mem_cons,List.not_mem_nil,or_false]
    rintro us (rfl|rfl)
    · exact one_of hv2
    · exact one_of hw2
  rintro r H4 ⟨hp4,hr⟩
  have hr':Acc H H4 r (vs++ws) 31:=by simpa using hr
  have hrows:Rws H4 (vs++ws) (evr cd (A++B)):=by
    refine⟨by simp [hl1,hl2],fun k hk=>?_⟩
    have h1:=hv2.1
    have h2:=hw2.1
    simp only [List.map_append,List.getD_eq_getElem?_getD]
    by_cases hkA:k<vs.length
    · rw [List.getElem?_append_left hkA,List.getElem?_append_left (by simp;omega)]
      have:=hv2.2 k (by simp;omega)
      simp only [List.getD_eq_getElem?_getD] at this
      exact this.pre hp4
    · have hk':k<A.length+B.length:=by simpa using hk
      rw [List.getElem?_append_right (by omega),List.getElem?_append_right (by simp;omega)]
      have:=hw2.2 (k-vs.length) (by simp;omega)
      simp only [List.getD_eq_getElem?_getD] at this
      rw [h1] at this ⊢
      exact this.pre hp4
  exact⟨hp4,_,hr'.x,hrows⟩
end
end Go.Sim

namespace Go.Sim
open Go Go.Proofs
section
variable {α:Type} [Fl α] [DecidableEq α] {cd:α→Nat} {p e b c q:Nat} {blk:AB} {H:AH}
theorem F2.add (F:FOK α cd p e b c 2 blk) (x y:α):cd (Fl.add x y)=cd x ^^^ cd y:=by
  have h01:∀ z:α,z=Fl.zero∨z=Fl.one:=fun z=>by
    have:=F.lt z
    have h:cd z=0∨cd z=1:=by omega
    rcases h with h|h
    · exact .inl ((F.eq0 z).1 h)
    · exact .inr (F.inj _ _ (by rw [h,F.one]))
  have h11:Fl.add (Fl.one:α) Fl.one=Fl.zero:=by
    rcases h01 (Fl.add Fl.one Fl.one) with h|h
    · exact h
    · exfalso
      have h2:Fl.add (Fl.one:α) Fl.one=Fl.add Fl.one Fl.zero:=by rw [h,Fl.add_zero]
      exact Fl.one_ne (Fl.add_left_cancel h2)
  rcases h01 x with rfl|rfl<;>rcases h01 y with rfl|rfl
  · rw [Fl.add_zero,F.zero];rfl
  · rw [Fl.zero_add,F.zero,F.one];rfl
  · rw [Fl.add_zero,F.zero,F.one];rfl
  · rw [h11,F.zero,F.one];rfl
end
end Go.Sim

namespace Go.Sim
open Go Go.Proofs
def AccS (H0 H:AH) (v:Value) (cs:List Value) (e:TypeId):Prop:=(v=.slice none 0 0∧cs=[])∨∃ b,H0.length≤b∧v=.slice (some ⟨b,0,none⟩) cs.length cs.length∧H[b]? = some (.cells cs e (some 1) false)
theorem AccS.acc {H0 H:AH} {v:Value} {cs:List Value} {e:TypeId} (h:AccS H0 H v cs e):Acc H0 H v cs e:=by
  rcases h with h|⟨b,h1,h2,h3⟩
  · exact .inl ⟨h.2,h.1⟩
  · exact .inr ⟨b,h1,h2,some 1,.inr rfl,h3⟩
theorem AccS.keepHi {H0 H1 H2:AH} {v:Value} {cs:List Value} {t:TypeId} (h:AccS H0 H1 v cs t) (hk:∀ x,H0.length≤x→x<H1.length→H2[x]? = H1[x]?):AccS H0 H2 v cs t:=by
  rcases h with h|⟨bl,h1,rfl,h2⟩
  · exact .inl h
  · exact .inr ⟨bl,h1,rfl,by rw [hk bl h1 (get_lt h2)];exact h2⟩
theorem AccS.mono {H0 H1 H:AH} {v:Value} {cs:List Value} {t:TypeId} (h:AccS H0 H v cs t) (hl:H1.length≤H0.length):AccS H1 H v cs t:=by
  rcases h with h|⟨b,h1,h2,h3⟩
  · exact .inl h
  · exact .inr ⟨b,Nat.le_trans hl h1,h2,h3⟩
theorem AccS.app1 {H0 H:AH} (hl0:H0.length≤H.length) {v u:Value} {cs:List Value} {e:TypeId} {by_:Nat} (h:AccS H0 H v cs e) (hu:one u=true) (hb:(cs.length+1)*by_≤140737488355328) (hl:cs.length+1≤9223372036854775807) {e2:TypeId} :
    ∃ v' H',xact (.app e 1 by_) (H++[.cells [u] e2 none false]) [v,.slice (some ⟨H.length,0,none⟩) 1 1]=some (v',H')∧AccS H0 H' v' (cs++[u]) e∧(∀ b,b<H0.length→H'[b]? = H[b]?)∧H.length≤H'.length:=by
  have he:erow (H++[.cells [u] e2 none false]) (.slice (some ⟨H.length,0,none⟩) 1 1) (slen (.slice (some ⟨H.length,0,none⟩) 1 1)*1)=some [u]:=by
    simp [erow,slen]
  have hs:slen (.slice (some ⟨H.length,0,none⟩) 1 1)=1:=rfl
  unfold xact
  simp only [he]
  rcases h with ⟨rfl,rfl⟩|⟨b,hb1,rfl,h2⟩
  · rw [if_pos ⟨by rw [hs];simpa [slen] using hb,by rw [hs];simp [slen],by simpa using hu⟩]
    simp only [hs]
    rw [if_neg (by omega)]
    exact⟨_,_,rfl,.inr ⟨H.length+1,by omega,by simp,by simp⟩,fun b hb=>by rw [List.append_assoc,List.getElem?_append_left (by omega)],by simp⟩
  · have hlt:=get_lt h2
    have h2':(H++[AB.cells [u] e2 none false])[b]? = some (.cells cs e (some 1) false):=by rw [List.getElem?_append_left hlt];exact h2
    rw [if_pos ⟨by rw [hs];simpa [slen] using hb,by rw [hs];simpa [slen] using hl,by simpa using hu⟩]
    simp only [h2',hs]
    rw [if_neg (by omega),if_neg (by simp),if_pos (by simp)]
    refine⟨_,_,rfl,.inr ⟨H.length+1,by omega,by simp,by simp⟩,fun b' hb=>?_,by simp;omega⟩
    rw [List.getElem?_append_left (by simp;omega),List.getElem?_set_ne (by omega),List.getElem?_append_left (by omega)]
section
variable {α:Type} [Fl α] [DecidableEq α] {cd:α→Nat} {p e b c q:Nat} {blk:AB} {H:AH}
theorem seq_c (F:FOK α cd p e b c q blk) {two:α} (h2:cd two=2) {l bv bf:Nat} {w:Value} {xs:List α} {Hb0:AH} (hx:xs.length≤1000) (Ib:Nat→AH→Prop) (h0:Ib 0 Hb0)
    (hb:∀ t Hb,Ib t Hb→Hb[bv]? = some (.cells [w] 31 none false)∧Row Hb w (evs cd xs)∧Hb[bf]? = some (fbx p e b c)∧Hb[b]? = some blk)
    (hy:∀ t Hb,t<xs.length→Ib t Hb→YN Tryz.prog l [nv (cd (Fl.mul two (xs.getD t Fl.zero)))] Hb (fun v H'=>v=.bool true∧Ib (t+1) H')) :
    FN Tryz.prog 130 [.func (.yield l) #[] #[],.pointer (some ⟨bv,0,none⟩),.pointer (some ⟨bf,0,none⟩)] Hb0 (fun _ H'=>Ib xs.length H'):=by
  refine g130_of ?_
  unfold g130
  obtain⟨c1,c2,c3,c4⟩:=hb 0 _ h0
  obtain⟨vl,_,_,_⟩:=c2.all Fl.zero
  simp (disch:=omega) only [zA,zB,zC,zD,zF,zG,zH,↓reduceIte,c1,vl]
  refine loopV1.nat xs.length (fun k i H'=>i=nv k∧Ib k H') ⟨rfl,h0⟩ ?_ ?_
  · rintro k i H1 hk ⟨rfl,hI⟩ J hJ
    obtain⟨d1,d2,d3,d4⟩:=hb k _ hI
    obtain⟨_,vi,vd,_⟩:=d2.all Fl.zero
    have hm:=F.mul H1 two (xs.getD k Fl.zero) d4
    rw [h2] at hm
    simp (disch:=omega) only [zA,zB,zC,zD,zF,zG,zH,↓reduceIte,hk,vi,vd,d3]
    refine FZ.use hm ?_
    rw [callZ_y]
    refine YN.mono (hy k H1 hk hI) ?_
    rintro _ H3 ⟨rfl,hI3⟩
    have hk1:k+1<4611686018427387904:=by omega
    simp (disch:=omega) only [zA,zB,zC,zD,zF,zG,zH,↓reduceIte,hk1]
    exact hJ _ _ ⟨rfl,hI3⟩
  · rintro i H1 ⟨rfl,hI⟩ J
    simp (disch:=omega) only [zA,zB,zC,zD,zF,zG,zH,↓reduceIte]
    exact hI
def Isq (cd:α→Nat) (two:α) (xs:List α) (H:AH) (L:ALoop) (t:Nat) (Hb:AH):Prop:=
  ∃ out,Hb[H.length]? = some (.cells [out] 31 none false)∧Hb[H.length+1]? = some (.defs (some []))∧Hb[H.length+2]? = some (.loop L) ∧
    AccS (H++[.cells [.slice none 0 0] 31 none false,.defs (some []),.loop L]) Hb out (evs cd ((xs.map (Fl.mul two)).take t)) 3∧(∀ x,x<H.length→Hb[x]? = H[x]?)∧H.length+3≤Hb.length
theorem appseq_c (F:FOK α cd p e b c q blk) {two:α} (h2:cd two=2) {bv bf:Nat} {w:Value} {xs:List α} (hbv:H[bv]? = some (.cells [w] 31 none false)) (hw:Row H w (evs cd xs)) (hbf:H[bf]? = some (fbx p e b c)) (hb:H[b]? = some blk) (hx:xs.length≤1000) :
    FN Tryz.prog 185 [.slice none 0 0,.func (.func 130) #[] #[.pointer (some ⟨bv,0,none⟩),.pointer (some ⟨bf,0,none⟩)]] H (fun r H'=>Pre H H'∧AccS H H' r (evs cd (xs.map (Fl.mul two))) 3):=by
  refine FN.of_compZ mixed xf185_ok (Nat.le_of_ble_eq_true rfl) ?_
  simp (disch:=omega) only [↓stPre,zC,zD,zF,zG,zH,↓reduceIte,xf185]
  refine X_gen (fun s H'=>s.env 2=.pointer (some ⟨H.length,0,none⟩)∧s.env 6=.func (.func 130) #[] #[.pointer (some ⟨bv,0,none⟩),.pointer (some ⟨bf,0,none⟩)]∧s.ds=[] ∧
     H'=H++[.cells [.slice none 0 0] 31 none false]) ?_ ?_
  · simp (disch:=omega) only [↓stPre,zC,zD,zF,zG,zH,Nat.reduceEqDiff,Nat.reduceLT,Nat.reduceLeDiff,↓reduceIte]
  rintro s H1 ⟨e2,e6,eds,rfl⟩
  refine range_ind (f:=.tmp 6) (g:=130) rfl e6 ?_
  intro assign body hA hB
  simp only [List.length_append,List.length_cons,List.length_nil,List.append_assoc,List.cons_append,List.nil_append,Nat.zero_add,Nat.reduceAdd,Nat.add_assoc]
  obtain⟨L,hL⟩:∃ L,L=newLoop 13 s #[7] assign body (H.length+1):=⟨_,rfl⟩
  rw [←hL]
  refine FN.mono (seq_c F h2 (xs:=xs) (w:=w) hx (Isq cd two xs H L) ?_ ?_ ?_) ?_
  · refine⟨.slice none 0 0,by simp,by simp,by simp,.inl ⟨rfl,rfl⟩,fun x hx=>List.getElem?_append_left hx,by simp⟩
  · rintro t Hb ⟨out,h1,h3,h4,h5,h6,h7⟩
    have hp:Pre H Hb:=h6
    exact⟨hp.get hbv,hw.pre hp,hp.get hbf,hp.get hb⟩
  · rintro t Hb ht ⟨out,h1,h3,h4,h5,h6,h7⟩
    have hlt:=get_lt h4
    obtain⟨H2,hH2⟩:∃ H2,H2=Hb.set (H.length+2) (.loop { L with state:=.busy,pending:=L.pending }):=⟨_,rfl⟩
    have k1:∀ x,x≠H.length+2→H2[x]? = Hb[x]?:=fun x hx=>by rw [hH2];exact List.getElem?_set_ne (Ne.symm hx)
    have kl:H2.length=Hb.length:=by rw [hH2];simp
    have g2:H2[H.length]? = some (.cells [out] 31 none false):=(k1 _ (by omega)).trans h1
    have h5':=h5.keepHi (H2:=H2) fun x hx _=>k1 x (by simp at hx;omega)
    have hlen:(evs cd ((xs.map (Fl.mul two)).take t)).length≤1000:=by simp;omega
    obtain⟨out',H5,e5,ho',hp',hl5⟩:=h5'.app1 (by_:=8) (by simp;omega) (u:=nv (cd (Fl.mul two (xs.getD t Fl.zero)))) rfl (by omega) (by omega) (e2:=3)
    refine YN.introZ mixed (r:=L) h4 (by rw [hL];exact hA) (by rw [hL];exact hB) (by rw [hL];rfl) (by rw [hL];simp [newLoop]) ?_
    have l1:L.n=13:=by rw [hL];rfl
    have l2:L.env=s.env:=by rw [hL];rfl
    have l3:L.params.toList=[7]:=by rw [hL];rfl
    have l4:L.state=.ready:=by rw [hL];rfl
    have l5:L.pending=L.pending:=rfl
    rw [l1,l2,l3]
    simp (disch:=(first|omega|(simp only [List.length_map];omega)|(simp only [stLen]<;>omega)|(simp only [all_nv];done)|rfl)) only [↓stPre,zC,zD,zF,zG,zH,Nat.reduceEqDiff,Nat.reduceLT,Nat.reduceLeDiff,↓reduceIte,parEnv_one,parEnv_at,E_ynA]
    refine⟨L,h4,l4,?_⟩
    rw [←hH2]
    have f1:xfill [nv 0] [(0,1)] [nv (cd (Fl.mul two (xs.getD t Fl.zero)))]=some [nv (cd (Fl.mul two (xs.getD t Fl.zero)))]:=rfl
    have g5:H5[H.length]? = some (.cells [out] 31 none false):=(hp' _ (by simp)).trans g2
    have s5:=stB_one (c:=[out]) (e:=31) (op:=none) (H:=H5) (bl:=H.length) (o:=0) (v:=out') ho'.acc.row.cells ho'.acc.row.one (by simp)
    simp (disch:=(first|omega|(simp only [List.length_map];omega)|(simp only [stLen]<;>omega)|(simp only [all_nv];done)|rfl)) only [↓stPre,zC,zD,zF,zG,zH,Nat.reduceEqDiff,Nat.reduceLT,Nat.reduceLeDiff,↓reduceIte,parEnv_one,parEnv_at,e2,g2,f1,e5,g5,s5,E_ynB]
    have g6:(H5.set H.length (.cells ([out].set 0 out') 31 none false))[H.length+2]? = some (.loop { L with state:=.busy,pending:=L.pending }):=by
      rw [List.getElem?_set_ne (by omega),hp' _ (by simp),hH2,List.getElem?_set_self hlt]
    have hl5':H.length+3≤H5.length:=by omega
    refine⟨_,g6,rfl,out',?_,?_,?_,?_,fun x hx=>?_,by simp;omega⟩
    · rw [List.getElem?_set_ne (by omega),List.getElem?_set_self (by omega)]
      first|done|rfl
    · rw [List.getElem?_set_ne (by omega),List.getElem?_set_ne (by omega),hp' _ (by simp),k1 _ (by omega)];exact h3
    · rw [List.getElem?_set_self (by simp;omega),hL];rfl
    · have e:(xs.map (Fl.mul two)).take (t+1)=(xs.map (Fl.mul two)).take t++[Fl.mul two (xs.getD t Fl.zero)]:=by
        rw [List.take_succ_eq_append_getElem (by simpa using ht)]
        simp [List.getD_eq_getElem?_getD,List.getElem?_eq_getElem ht]
      rw [e,show evs cd ((xs.map (Fl.mul two)).take t++[Fl.mul two (xs.getD t Fl.zero)])=evs cd ((xs.map (Fl.mul two)).take t)++[nv (cd (Fl.mul two (xs.getD t Fl.zero)))] by simp]
      exact ho'.keepHi fun x hx _=>by
        simp at hx
        rw [List.getElem?_set_ne (by omega),List.getElem?_set_ne (by omega)]
    · rw [List.getElem?_set_ne (by omega),List.getElem?_set_ne (by omega),hp' _ (by simp;omega),k1 _ (by omega)]
      exact h6 x hx
  · rintro v H2 ⟨out,h1,h3,h4,h5,h6,h7⟩
    rw [List.take_of_length_le (by simp)] at h5
    refine⟨L,.normal,h4,by rw [hL];simp [newLoop],by rw [hL];rfl,?_⟩
    refine EZ_of ?_
    obtain⟨H3,hH3⟩:∃ H3,H3=H2.set (H.length+2) (.loop { L with state:=.exhausted,pending:=L.pending }):=⟨_,rfl⟩
    rw [←hH3]
    have k1:∀ x,x≠H.length+2→H3[x]? = H2[x]?:=fun x hx=>by rw [hH3];exact List.getElem?_set_ne (Ne.symm hx)
    have g3:H3[H.length]? = some (.cells [out] 31 none false):=(k1 _ (by omega)).trans h1
    have g4:H3[H.length+1]? = some (.defs (some [])):=(k1 _ (by omega)).trans h3
    have kl:H3.length=H2.length:=by rw [hH3];simp
    simp (disch:=omega) only [↓stPre,zC,zD,zF,zG,zH,↓reduceIte,e2,xf185,eds,g3]
    rw [unwA_col g4]
    simp (disch:=omega) only [↓stPre,zC,zD,zF,zG,zH,↓reduceIte,e2,xf185,eds,g3]
    have hk:∀ x,x<H.length→(H3.set (H.length+1) (.defs none))[x]? = H[x]?:=fun x hx=>by
      rw [List.getElem?_set_ne (by omega),k1 _ (by omega)];exact h6 x hx
    refine⟨hk,?_⟩
    have:=h5.keepHi (H2:=H3.set (H.length+1) (.defs none)) fun x hx _=>by
      simp at hx
      rw [List.getElem?_set_ne (by omega),k1 _ (by omega)]
    exact this.mono (by simp)
theorem collect_c (F:FOK α cd p e b c q blk) {two:α} (h2:cd two=2) {bv bf:Nat} {w:Value} {xs:List α} (hbv:H[bv]? = some (.cells [w] 31 none false)) (hw:Row H w (evs cd xs)) (hbf:H[bf]? = some (fbx p e b c)) (hb:H[b]? = some blk) (hx:xs.length≤1000) :
    FN Tryz.prog 129 [.func (.func 130) #[] #[.pointer (some ⟨bv,0,none⟩),.pointer (some ⟨bf,0,none⟩)]] H (fun r H'=>Pre H H'∧AccS H H' r (evs cd (xs.map (Fl.mul two))) 3):=by
  refine g129_of ?_
  unfold g129
  refine FZ.mono (appseq_c F h2 hbv hw hbf hb hx) ?_
  rintro r H1 h
  exact h
theorem twice_c (F:FOK α cd p e b c q blk) {two:α} (h2:cd two=2) {bf:Nat} {w:Value} {xs:List α} (hw:Row H w (evs cd xs)) (hbf:H[bf]? = some (fbx p e b c)) (hb:H[b]? = some blk) (hx:xs.length≤1000) :
    FN Tryz.prog 128 [w,.pointer (some ⟨bf,0,none⟩)] H (fun r H'=>Pre H H'∧AccS H H' r (evs cd (xs.map (Fl.mul two))) 3):=by
  refine g128_of ?_
  unfold g128
  have hwo:cellsL w=[w]:=hw.cells
  simp (disch:=omega) only [zA,zB,zC,zD,zF,zG,zH,↓reduceIte,hwo,xp_fn2]
  have hp:=Pre.new H [.cells [w] 31 none false]
  refine FZ.mono (collect_c F h2 (bv:=H.length) (w:=w) (by simp) (hw.pre hp) (hp.get hbf) (hp.get hb) hx) ?_
  rintro r H1 ⟨h1,h3⟩
  exact⟨hp.trans h1,h3.mono (by simp)⟩
theorem twice_x (F:FOK α cd p e b c q blk) {two:α} (h2:cd two=2) {bf:Nat} {w:Value} {xs:List α} (hw:Row H w (evs cd xs)) (hbf:H[bf]? = some (fbx p e b c)) (hb:H[b]? = some blk) (hx:xs.length≤1000) (h0:xs≠[]) :
    FN Tryz.prog 128 [w,.pointer (some ⟨bf,0,none⟩)] H (fun r H'=>r=.slice (some ⟨H.length,0,none⟩) xs.length xs.length∧H'=H++[.cells (evs cd (xs.map (Fl.mul two))) 3 (some 1) false]):=by
  have h1:FN Tryz.prog 128 [w,.pointer (some ⟨bf,0,none⟩)] H (fun v H'=>∃ x,H'=H++[x]∧(v=.slice (some ⟨H.length,0,none⟩) xs.length xs.length∧x=.cells (((xs.map (Fl.mul two)).map cd).map nv) 3 (some 1) false)):=
    FN.gc1 (R:=fun v x=>v=.slice (some ⟨H.length,0,none⟩) xs.length xs.length∧x=.cells (((xs.map (Fl.mul two)).map cd).map nv) 3 (some 1) false) ((twice_c F h2 hw hbf hb hx).mono (by
      rintro r H' ⟨hp,h|⟨b1,h3,h4,h5⟩⟩
      · exact absurd h.2 (by simpa using h0)
      · rw [evs_nv] at h5
        exact gc1_nv h3 h5 ⟨hp.len,hp⟩ (by simpa using h4)))
  refine h1.mono ?_
  rintro r _ ⟨x,rfl,rfl,rfl⟩
  exact⟨rfl,by rw [evs_nv]⟩
end
end Go.Sim

namespace Go.Sim
open Go Go.Proofs
section
variable {α:Type} [Fl α] [DecidableEq α] {cd:α→Nat} {p e b c q:Nat} {blk:AB} {H:AH}
def tab (n:Nat) (f:Nat→Value):List Value:=(List.range n).map f
theorem tab_len (n:Nat) (f:Nat→Value):(tab n f).length=n:=by simp [tab]
theorem tab_set {n:Nat} {f g:Nat→Value} {k:Nat} {v:Value} (hk:k<n) (hv:g k=v) (h:∀ j,j<n→j≠k→g j=f j):(tab n f).set k v=tab n g:=by
  refine List.ext_getElem (by simp [tab]) fun i h1 h2=>?_
  have hi:i<n:=by simpa [tab] using h2
  by_cases hik:i=k
  · subst hik;simp [tab,hv]
  · rw [List.getElem_set_ne (Ne.symm hik)];simp [tab,h i hi hik]
theorem tab_cong {n:Nat} {f g:Nat→Value} (h:∀ j,j<n→f j=g j):tab n f=tab n g:=List.map_congr_left fun j hj=>h j (List.mem_range.1 hj)
theorem tab_st {n bl k:Nat} {f g:Nat→Value} {et:TypeId} {op:Option Nat} {v:Value} (h:H[bl]? = some (.cells (tab n f) et op false)) (hk:k<n) (hc:cellsL v=[v]) (h1:one v=true) (hv:g k=v) (hg:∀ j,j<n→j≠k→g j=f j) :
    stB 1 H (some (.cells (tab n f) et op false)) bl k v=some (undef,H.set bl (.cells (tab n g) et op false)):=by
  rw [stB_one hc h1 (by rw [tab_len];exact hk),tab_set hk hv hg]
theorem zeros_tab (n:Nat):(List.replicate n 0).map nv=tab n fun _=>nv 0:=by
  refine List.ext_getElem (by simp [tab]) fun i h1 h2=>by simp [tab]
end
end Go.Sim

namespace Go.Sim
open Go Go.Proofs
theorem Lw.RowLo.isSl {n:Nat} {H:AH} {v:Value} {css:List (List Value)} (h:Lw.RowLo n H v css):isSl v=true:=by obtain⟨_,h,_⟩:=h;exact h.1.isSl
theorem fill_got {q n er:Nat} {w:Value} (h:isSl w=true):xfill [nv 0,nv 0,.slice none 0 0,nv 0] [(0,3),(3,1)] [codv q n w,nv er]=some [nv q,nv n,w,nv er]:=by
  cases w<;>simp [isSl] at h
  rfl
section
variable {α:Type} [Fl α] [DecidableEq α] {cd:α→Nat} {p e b c q:Nat} {blk:AB} {H:AH}
end
end Go.Sim

namespace Go.Sim
open Go Go.Proofs
def repE (g h:List Nat) (u j:Nat):Nat:=(u % 2*g.getD j 0+u / 2*h.getD j 0) % 2
def repL (m:Nat) (g h:List Nat) (us:List Nat):List Nat:=us.flatMap fun u=>(List.range m).map (repE g h u)
theorem repL_len (m:Nat) (g h:List Nat):∀ us:List Nat,(repL m g h us).length=us.length*m
  | []=>by simp [repL]
  | u :: us=>by
    have:=repL_len m g h us
    unfold repL at this ⊢
    rw [List.flatMap_cons,List.length_append,this,List.length_map,List.length_range,List.length_cons,Nat.succ_mul,Nat.add_comm]
theorem repL_snoc (m:Nat) (g h:List Nat) (us:List Nat) (u:Nat):repL m g h (us++[u])=repL m g h us++(List.range m).map (repE g h u):=by
  simp [repL]
theorem and_one {u:Nat} (hu:u<4):xbin .and 0 (nv u) (nv 1)=some (nv (u % 2)):=by
  have:u=0∨u=1∨u=2∨u=3:=by omega
  rcases this with rfl|rfl|rfl|rfl<;>rfl
theorem shr_one {u:Nat} (hu:u<4):xbin .shr 0 (nv u) (.int .u64 1)=some (nv (u / 2)):=by
  have:u=0∨u=1∨u=2∨u=3:=by omega
  rcases this with rfl|rfl|rfl|rfl<;>rfl
theorem mul_bit {a b:Nat} (ha:a<2) (hb:b<2):xbin .mul 0 (nv a) (nv b)=some (nv (a*b))∧a*b<2:=by
  have h1:a=0∨a=1:=by omega
  have h2:b=0∨b=1:=by omega
  rcases h1 with rfl|rfl<;>rcases h2 with rfl|rfl<;>exact⟨rfl,by decide⟩
theorem xor_bit {a b:Nat} (ha:a<2) (hb:b<2):xbin .xor 0 (nv a) (nv b)=some (nv ((a+b) % 2)):=by
  have h1:a=0∨a=1:=by omega
  have h2:b=0∨b=1:=by omega
  rcases h1 with rfl|rfl<;>rcases h2 with rfl|rfl<;>rfl
theorem getD_lt2 {l:List Nat} {k:Nat} (h:∀ z∈l,z<2):l.getD k 0<2:=by
  by_cases hk:k<l.length
  · exact h _ (getD_mem hk)
  · rw [List.getD_eq_getElem?_getD,List.getElem?_eq_none (by omega)];decide
theorem repl_c {H:AH} {v vi x0:Value} {bb m:Nat} {us:List Nat} {B:List (List Nat)} (hbb:H[bb]? = some (.cells [x0,nv m,vi] 29 none false)) (hvi:RowR H vi (B.map fun l=>l.map nv)) (hB:B.length=2) (hBl:∀ l∈B,l.length=m∧∀ z∈l,z<2)
    (hv:Row H v (us.map nv)) (hus:∀ u∈us,u<4) (hul:us.length*m≤1000) (hm:m≤1000) (hul2:us.length≤1000) :
    FN Tryz.prog 127 [v,.pointer (some ⟨bb,0,none⟩)] H (fun r H'=>Pre H H'∧Acc H H' r ((repL m (B.getD 0 []) (B.getD 1 []) us).map nv) 3):=by
  refine g127_of ?_
  unfold g127
  obtain⟨vs,hvs,hvl,hvr⟩:=hvi.openN
  obtain⟨vl,_,_,_⟩:=hv.all 0
  obtain⟨hg0,hg1⟩:=hBl _ (getD_mem (l:=B) (k:=0) (d:=[]) (by omega))
  obtain⟨hh0,hh1⟩:=hBl _ (getD_mem (l:=B) (k:=1) (d:=[]) (by omega))
  have r0:=hvr 0 (by omega)
  have r1:=hvr 1 (by omega)
  obtain⟨g,hg⟩:∃ g,g=B.getD 0 []:=⟨_,rfl⟩
  obtain⟨h,hh⟩:∃ h,h=B.getD 1 []:=⟨_,rfl⟩
  rw [←hg] at hg0 hg1 r0 ⊢
  rw [←hh] at hh0 hh1 r1 ⊢
  obtain⟨w0,hw0⟩:∃ w,w=vs.getD 0 undef:=⟨_,rfl⟩
  obtain⟨w1,hw1⟩:∃ w,w=vs.getD 1 undef:=⟨_,rfl⟩
  rw [←hw0] at r0
  rw [←hw1] at r1
  simp (disch:=omega) only [zA,zB,zC,zD,zF,zG,zH,↓reduceIte,vl]
  refine loopV2.nat us.length (fun k out i H'=>i=nv k∧Pre H H'∧Acc H H' out ((repL m g h (us.take k)).map nv) 3) ⟨rfl,Pre.refl _,Acc.nil⟩ ?_ ?_
  · rintro k out i H1 hk ⟨rfl,hp1,ho⟩ J hJ
    obtain⟨_,vi',vd,_⟩:=(hv.pre hp1).all 0
    have c1:=hp1.get hbb
    have hu4:us.getD k 0<4:=hus _ (getD_mem hk)
    obtain⟨u,hu⟩:∃ u,u=us.getD k 0:=⟨_,rfl⟩
    have hkm:(k+1)*m≤1000:=Nat.le_trans (Nat.mul_le_mul_right m hk) hul
    have hkm':k*m+m≤1000:=by rw [Nat.succ_mul] at hkm;exact hkm
    have hlen0:(repL m g h (us.take k)).length=k*m:=by rw [repL_len,List.length_take,Nat.min_eq_left (by omega)]
    have hus':us.take (k+1)=us.take k++[u]:=by
      rw [List.take_succ_eq_append_getElem hk,hu]
      simp [List.getD_eq_getElem?_getD,List.getElem?_eq_getElem hk]
    rw [←hu] at hu4
    simp (disch:=omega) only [zA,zB,zC,zD,zF,zG,zH,↓reduceIte,hk,vi',vd,c1]
    rw [←hu]
    refine loopV2.nat m (fun j out i H'=>i=nv j∧Pre H H'∧Acc H H' out ((repL m g h (us.take k)++(List.range j).map (repE g h u)).map nv) 3) ⟨rfl,hp1,by simpa using ho⟩ ?_ ?_
    · rintro j out i H2 hj ⟨rfl,hp2,ho2⟩ J2 hJ2
      have c2:=hp2.get hbb
      obtain⟨tl,ti,td,_⟩:=(hvs.pre hp2).allV
      have t0:=ti 0 (by omega)
      have t1:=ti 1 (by omega)
      have d0:=td 0 (by omega)
      have d1:=td 1 (by omega)
      rw [←hw0] at d0
      rw [←hw1] at d1
      obtain⟨_,i0,e0,_⟩:=(r0.pre hp2).all 0
      obtain⟨_,i1,e1,_⟩:=(r1.pre hp2).all 0
      have hjg:j<g.length:=by omega
      have hjh:j<h.length:=by omega
      have q1:=and_one hu4
      have q2:=shr_one hu4
      obtain⟨q3,q3'⟩:=mul_bit (a:=u % 2) (b:=g.getD j 0) (by omega) (getD_lt2 hg1)
      obtain⟨q4,q4'⟩:=mul_bit (a:=u / 2) (b:=h.getD j 0) (by omega) (getD_lt2 hh1)
      have q5:=xor_bit q3' q4'
      have hl2:((repL m g h (us.take k)++(List.range j).map (repE g h u)).map nv).length≤1000:=by simp [hlen0];omega
      obtain⟨out',H5,e5,ho',hp',_⟩:=ho2.app1 (by_:=8) hp2.len (u:=nv ((u % 2*g.getD j 0+u / 2*h.getD j 0) % 2)) rfl (by omega) (by omega) (e2:=3)
      have f5:xfill [nv 0] [(0,1)] [nv ((u % 2*g.getD j 0+u / 2*h.getD j 0) % 2)]=some [nv ((u % 2*g.getD j 0+u / 2*h.getD j 0) % 2)]:=rfl
      simp (disch:=omega) only [zA,zB,zC,zD,zF,zG,zH,↓reduceIte,hj,q1,c2,t0,t1,d0,d1,i0,i1,e0,e1,hjg,hjh,q2,q3,q4,q5,f5,e5]
      refine hJ2 _ _ _ ⟨rfl,hp' hp2,?_⟩
      have e:(repL m g h (us.take k)++(List.range (j+1)).map (repE g h u)).map nv=(repL m g h (us.take k)++(List.range j).map (repE g h u)).map nv++[nv ((u % 2*g.getD j 0+u / 2*h.getD j 0) % 2)]:=by
        simp [List.range_succ,repE]
      rw [e]
      exact ho'
    · rintro out i H2 ⟨rfl,hp2,ho2⟩ J2
      simp (disch:=omega) only [zA,zB,zC,zD,zF,zG,zH,↓reduceIte]
      refine hJ _ _ _ ⟨rfl,hp2,?_⟩
      rw [hus',repL_snoc]
      exact ho2
  · rintro out i H1 ⟨rfl,hp1,ho⟩ J
    rw [List.take_length] at ho
    simp (disch:=omega) only [zA,zB,zC,zD,zF,zG,zH,↓reduceIte]
    exact⟨hp1,ho⟩
section
variable {α β:Type} [Fl α] [Fl β] [DecidableEq α] [DecidableEq β] {cda:α→Nat} {cdb:β→Nat} {p e p2 e2:Nat} {blk blk2:AB} {H:AH}
theorem each_b {v:Value} {G:List (List α)} {F:Nat} {cap:Array Value} {T:List α→List β} (hv:RowR H v (evr cda G)) (hn:G.length≤100000)
    (hF:∀ x∈G,∀ (w:Value) (H1:AH),Pre H H1→Row H1 w (evs cda x)→FN Tryz.prog F (w :: cap.toList) H1 (fun r H2=>Pre H1 H2∧Row H2 r (evs cdb (T x)))) :
    FN Tryz.prog 113 [v,.func (.func F) #[] cap] H (fun r H'=>Pre H H'∧RowR H' r (evr cdb (G.map T))):=by
  refine (each_c (Ts:=evr cdb (G.map T)) hv (by simp) (by simpa using hn) (fun t ht=>?_) fun k w H1 hk hp hw=>?_).mono fun r H' h=>⟨h.1,h.2.rowR⟩
  · obtain⟨x,_,rfl⟩:=List.mem_map.1 ht;exact evs_plain _
  · have hk':k<G.length:=by simpa using hk
    rw [evr_get] at hw
    have e1:(evr cdb (G.map T)).getD k []=evs cdb (T (G.getD k [])):=by
      rw [evr_get]
      simp [List.getD_eq_getElem?_getD,List.getElem?_eq_getElem hk']
    rw [e1]
    exact hF _ (getD_mem hk') w H1 hp hw
def lcat (two:α) (A:List (List α)):List (List α):=A++A.map fun x=>x.map (Fl.mul two)
theorem mconcat_c (Q4:FQ α cda p e 4 blk) (Q2:FQ β cdb p2 e2 2 blk2) {two:α} (h2:cda two=2) {v w:Value} {n m:Nat} {A:List (List α)} {B:List (List β)} (rep:List α→List β)
    (hrep:∀ x:List α,(rep x).map cdb=repL m ((B.getD 0 []).map cdb) ((B.getD 1 []).map cdb) (x.map cda)) (hv:RowR H v (evr cda A)) (hw:RowR H w (evr cdb B)) (hA:∀ x∈A,x.length=n) (hB:∀ x∈B,x.length=m) (hB2:B.length=2) (hlA:A.length≤100) (hn0:0<n) (hm0:0<m) (hnm:n*m≤24) :
    FN Tryz.prog 73 [codv 4 n v,codv 2 m w] H (RetC cdb 2 (n*m) (lreduce ((lcat two A).map rep)) H):=by
  refine g73_of ?_
  unfold g73
  have hn24:n≤24:=Nat.le_trans (Nat.le_mul_of_pos_right n hm0) hnm
  have hm24:m≤24:=Nat.le_trans (Nat.le_mul_of_pos_left m hn0) hnm
  have ho:=hv.one'
  have ho2:=hw.one'
  have hnm':¬24<n*m:=by omega
  obtain⟨ws,hws,hwl,_⟩:=RowR.openN (H:=H++[.cells [nv 4,nv n,v] 29 none false,.cells [nv 2,nv m,w] 29 none false,.cells [nv 0,nv 0,.slice none 0 0] 29 none false]) (v:=w) (xss:=B.map fun l=>l.map cdb) (by rw [←evr_nv];exact hw.pre (Pre.new _ _))
  obtain⟨wl,_,_,_⟩:=hws.allV
  have hwl2:ws.length=2:=by simpa [hB2] using hwl
  have hmul:n*m<9223372036854775808:=by omega
  simp (disch:=omega) only [zA,zB,zC,zD,zF,zG,zH,↓reduceIte,ho,ho2,wl,hwl2,hnm',hmul,xp_fn1]
  have hX:=Pre.new H [.cells [nv 4,nv n,v] 29 none false,.cells [nv 2,nv m,w] 29 none false,.cells [nv 0,nv 0,.slice none 0 0] 29 none false]
  clear hws wl
  obtain⟨HX,hHX⟩:∃ HX,HX=H++[.cells [nv 4,nv n,v] 29 none false,.cells [nv 2,nv m,w] 29 none false,.cells [nv 0,nv 0,.slice none 0 0] 29 none false]:=⟨_,rfl⟩
  have g0:HX[H.length]? = some (.cells [nv 4,nv n,v] 29 none false):=by rw [hHX];simp
  have g1:HX[H.length+1]? = some (.cells [nv 2,nv m,w] 29 none false):=by rw [hHX];simp
  have g2:HX[H.length+2]? = some (.cells [nv 0,nv 0,.slice none 0 0] 29 none false):=by rw [hHX];simp
  have hXl:HX.length=H.length+3:=by rw [hHX];simp
  rw [←hHX] at hX ⊢
  clear hHX
  refine FZ.use (Q4.make _) ?_
  have s4:=stB_three (H:=HX++[blk,.cells [nv 0,nv 0,.slice none 0 0] 76 none false]) (bl:=HX.length+1) (x:=nv p) (y:=nv e) (z:=.slice (some ⟨HX.length,0,none⟩) e e) (c0:=nv 0) (c1:=nv 0) (c2:=.slice none 0 0) (e:=76) (op:=none) rfl rfl rfl
  have e4:(HX++[blk,.cells [nv 0,nv 0,.slice none 0 0] 76 none false]).set (HX.length+1) (.cells [nv p,nv e,.slice (some ⟨HX.length,0,none⟩) e e] 76 none false)=HX++[blk,fbx p e HX.length e]:=by
    rw [List.set_append_right _ _ (by omega)];simp
  rw [e4] at s4
  have hp0:=Pre.new HX [blk,fbx p e HX.length e]
  have c0:=hp0.get g0
  have gb:(HX++[blk,fbx p e HX.length e])[HX.length]? = some blk:=by simp
  have gf:(HX++[blk,fbx p e HX.length e])[HX.length+1]? = some (fbx p e HX.length e):=by simp
  simp (disch:=omega) only [zA,zB,zC,zD,zF,zG,zH,↓reduceIte,s4,c0,xp_fn1]
  have hA':∀ x∈A,x.length≤1000:=fun x hx=>by rw [hA x hx];omega
  refine FZ.mono (each_e (T:=fun x=>x.map (Fl.mul two)) (hv.pre (hX.trans hp0)) (by omega) (fun x hx w H1 hp hw=>?_)) ?_
  · exact FN.mono (twice_c (Q4.ok _) h2 hw (hp.get gf) (hp.get gb) (hA' x hx)) fun r H' h=>⟨h.1,h.2.acc.row⟩
  rintro r8 H8 ⟨hp8,hr8⟩
  have hX8:=hX.trans (hp0.trans hp8)
  have hp08:=hp0.trans hp8
  have d0:=hp08.get g0
  have d1:=hp08.get g1
  have hv8:=hv.pre hX8
  have f8:=hr8.fill
  have f9:=hv8.fill
  simp (disch:=(first|omega|(simp only [stLen]<;>omega)|(simp only [all_nv];done)|rfl)) only [zA,zB,zC,zD,zF,zG,zH,Nat.reduceEqDiff,Nat.reduceLT,Nat.reduceLeDiff,↓reduceIte,d0,d1,hmul,f8,f9]
  have hp10:=Pre.new H8 [.cells [v,r8] 27 none false]
  refine FZ.mono (all2_c (et:=27) (op:=none) (bl:=H8.length) (v:=v) (w:=r8) (by simp) (hv8.pre hp10) (hr8.pre hp10) (by omega) (by simp;omega)) ?_
  rintro r11 H11 ⟨hp11,hr11⟩
  have hp011:=hp08.trans (hp10.trans hp11)
  have e0:=hp011.get g0
  have e1:=hp011.get g1
  simp (disch:=omega) only [zA,zB,zC,zD,zF,zG,zH,↓reduceIte,e0,e1]
  have hlc:(lcat two A).length≤200:=by simp [lcat];omega
  have hwid:∀ x∈lcat two A,x.length=n:=by
    intro x hx
    rcases List.mem_append.1 hx with h|h
    · exact hA x h
    · obtain⟨y,hy,rfl⟩:=List.mem_map.1 h;rw [List.length_map];exact hA y hy
  have hBx:∀ l∈B.map (fun l=>l.map cdb),l.length=m∧∀ z∈l,z<2:=by
    intro l hl
    obtain⟨y,hy,rfl⟩:=List.mem_map.1 hl
    refine⟨by rw [List.length_map];exact hB y hy,fun z hz=>?_⟩
    obtain⟨a,_,rfl⟩:=List.mem_map.1 hz
    exact (Q2.ok 0).lt a
  have eB:∀ k,(B.map fun l=>l.map cdb).getD k []=(B.getD k []).map cdb:=fun k=>by
    simp only [List.getD_eq_getElem?_getD,List.getElem?_map]
    cases B[k]?<;>rfl
  refine FZ.mono (each_b (cdb:=cdb) (T:=rep) hr11 (by simp;omega) (fun x hx w9 H1 hp hw9=>?_)) ?_
  · have hxl:=hwid x hx
    have:=repl_c (us:=x.map cda) (B:=B.map fun l=>l.map cdb) (hp.get e1) (by rw [←evr_nv];exact hw.pre (hX.trans (hp011.trans hp))) (by rw [List.length_map];exact hB2) hBx (by rw [←evs_nv];exact hw9) (fun u hu=>by obtain⟨a,_,rfl⟩:=List.mem_map.1 hu;exact (Q4.ok 0).lt a) (by rw [List.length_map,hxl];omega) (by omega) (by rw [List.length_map,hxl];omega)
    rw [eB,eB,←hrep x] at this
    refine FN.mono this fun r H' h=>⟨h.1,?_⟩
    rw [evs_nv];exact h.2.row
  rintro r12 H12 ⟨hp12,hr12⟩
  have k0:=hp12.get e0
  have k1:=hp12.get e1
  simp (disch:=omega) only [zA,zB,zC,zD,zF,zG,zH,↓reduceIte,k0,k1]
  have hrl:∀ x∈(lcat two A).map rep,x.length=n*m:=by
    intro x hx
    obtain⟨y,hy,rfl⟩:=List.mem_map.1 hx
    have:=congrArg List.length (hrep y)
    rw [List.length_map,repL_len,List.length_map,hwid y hy] at this
    exact this
  refine FZ.mono (mmade_c Q2 hr12 hrl (by simp;omega) (by omega) (Nat.mul_pos hn0 hm0)) ?_
  rintro _ H13 ⟨hp13,w13,rfl,hw13⟩
  have hpall:=hp011.trans (hp12.trans hp13)
  have hc:=hpall.get g2
  have s9:=stB_three (H:=H13) (bl:=H.length+2) (x:=nv 2) (y:=nv (n*m)) (z:=w13) (c0:=nv 0) (c1:=nv 0) (c2:=.slice none 0 0) (e:=29) (op:=none) rfl rfl hw13.one
  have g9:(H13.set (H.length+2) (.cells [nv 2,nv (n*m),w13] 29 none false))[H.length+2]? = some (.cells [nv 2,nv (n*m),w13] 29 none false):=List.getElem?_set_self (get_lt hc)
  simp (disch:=omega) only [zA,zB,zC,zD,zF,zG,zH,↓reduceIte,hc,s9,g9]
  have hl12:=(hp011.trans hp12).len
  exact⟨(hX.trans hpall).set (by omega) _,w13,rfl,(hw13.setLow (by omega)).mono (by omega)⟩
end
end Go.Sim

namespace Go.Sim
open Go Go.Proofs
abbrev bv (k:Nat):Value:=.int .u8 (k:Int)
section
variable {α:Type} [Fl α] [DecidableEq α] {cd:α→Nat} {p e b c q:Nat} {blk:AB} {H:AH}
theorem bv_ld {v:Value} {us:List Nat} (hv:Row H v (us.map bv)) {k:Nat} (hk:k<us.length):xload none H [ptrAt v k]=some (bv (us.getD k 0)):=by
  have:=hv.ldM 0 hk;exact this
theorem getD_lt {us:List Nat} {m k:Nat} (h:∀ u∈us,u<m) (hk:k<us.length):us.getD k 0<m:=h _ (getD_mem hk)
end
end Go.Sim

namespace Go.Sim
open Go Go.Proofs
section
variable {α:Type} [Fl α] [DecidableEq α] {cd:α→Nat} {p e b c q:Nat} {blk:AB} {H:AH}
theorem zero_c {n:Nat} (hn:n≤1000):FN Tryz.prog 60 [nv n] H (fun r H'=>r=.slice (some ⟨H.length,0,none⟩) n n∧H'=H++[.cells ((List.replicate n 0).map nv) 3 none false]):=by
  refine g60_of ?_
  unfold g60
  have hmk:8*n≤281474976710656:=by omega
  simp (disch:=omega) only [zA,zB,zC,zD,zF,zG,zH,↓reduceIte,hmk,xnew_makeN]
theorem over_c (Q:FQ α cd p e q blk):FN Tryz.prog 62 [nv q] H (fun r H'=>Pre H H'∧∃ b,r=fldv p e b e e∧H'[b]? = some blk):=by
  refine g62_of ?_
  unfold g62
  simp (disch:=omega) only [zA,zB,zC,zD,zF,zG,zH,↓reduceIte]
  refine FZ.use (Q.rmake _) ?_
  have s3:=stB_three (H:=H++[.cells [nv 0,nv 0,.slice none 0 0] 76 none false,blk,.cells [nv 0,nv 0,.slice none 0 0] 76 none false]) (bl:=H.length+2) (x:=nv p) (y:=nv e) (z:=.slice (some ⟨H.length+1,0,none⟩) e e) (c0:=nv 0) (c1:=nv 0) (c2:=.slice none 0 0) (e:=76) (op:=none) rfl rfl rfl
  have e3:(H++[.cells [nv 0,nv 0,.slice none 0 0] 76 none false,blk,.cells [nv 0,nv 0,.slice none 0 0] 76 none false]).set (H.length+2) (.cells [nv p,nv e,.slice (some ⟨H.length+1,0,none⟩) e e] 76 none false)=H++[.cells [nv 0,nv 0,.slice none 0 0] 76 none false,blk,fbx p e (H.length+1) e]:=by
    rw [List.set_append_right _ _ (by omega)];simp
  rw [e3] at s3
  have s4:=stB_three (H:=H++[.cells [nv 0,nv 0,.slice none 0 0] 76 none false,blk,fbx p e (H.length+1) e]) (bl:=H.length) (x:=nv p) (y:=nv e) (z:=.slice (some ⟨H.length+1,0,none⟩) e e) (c0:=nv 0) (c1:=nv 0) (c2:=.slice none 0 0) (e:=76) (op:=none) rfl rfl rfl
  have e4:(H++[.cells [nv 0,nv 0,.slice none 0 0] 76 none false,blk,fbx p e (H.length+1) e]).set H.length (.cells [nv p,nv e,.slice (some ⟨H.length+1,0,none⟩) e e] 76 none false)=H++[fbx p e (H.length+1) e,blk,fbx p e (H.length+1) e]:=by
    rw [List.set_append_right _ _ (by omega)];simp
  rw [e4] at s4
  simp (disch:=omega) only [zA,zB,zC,zD,zF,zG,zH,↓reduceIte,s3,s4]
  exact⟨Pre.new _ _,H.length+1,rfl,by simp⟩
theorem rem8 {u m:Nat} (hm:m≠0):xbin .rem 0 (bv u) (.int .u8 (m:Int))=some (bv (u % m)):=xbin_remN hm
theorem ix6 {b j:Nat} (hj:j<6):xpure (.ixS 1) [.slice (some ⟨b,0,none⟩) 6 6,bv j]=some (.pointer (some ⟨b,j,none⟩)):=by
  have:j=0∨j=1∨j=2∨j=3∨j=4∨j=5:=by omega
  rcases this with rfl|rfl|rfl|rfl|rfl|rfl<;>rfl
def mostM (j:Nat):Nat:=[8,5,4,3,2,2].getD j 0
theorem ld6 {j:Nat} (hj:j<6):loadB none (some (.cells [nv 2,nv 3,nv 4,nv 5,nv 7,nv 8] 3 none false)) j=some (nv (Pf.ordM j)):=by
  have:j=0∨j=1∨j=2∨j=3∨j=4∨j=5:=by omega
  rcases this with rfl|rfl|rfl|rfl|rfl|rfl<;>rfl
theorem ld6' {j:Nat} (hj:j<6):loadB none (some (.cells [nv 8,nv 5,nv 4,nv 3,nv 2,nv 2] 3 none false)) j=some (nv (mostM j)):=by
  have:j=0∨j=1∨j=2∨j=3∨j=4∨j=5:=by omega
  rcases this with rfl|rfl|rfl|rfl|rfl|rfl<;>rfl
theorem most_le {j:Nat} (hj:j<6):mostM j≤8∧Pf.ordM j≤8∧2≤Pf.ordM j:=by
  have:j=0∨j=1∨j=2∨j=3∨j=4∨j=5:=by omega
  rcases this with rfl|rfl|rfl|rfl|rfl|rfl<;>decide
abbrev rawv (k n m:Nat) (x:Value):Value:=.agg [bv k,bv n,bv m,x].toArray
end
end Go.Sim
