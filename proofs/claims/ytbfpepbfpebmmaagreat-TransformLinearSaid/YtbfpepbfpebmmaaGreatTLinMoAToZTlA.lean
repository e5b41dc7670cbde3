/- Part of the proof: MoA, ZPfMatA, ZPfMatB, ZSpF, MoB, MoC, MoP, MoQ, MoD, MoE, MoJ, MoK, MoM, MoN, MoO, ZTlA. -/
import Derived.Test.YtbfpepbfpebmmaaGreatTLinZMoG
import Derived.Test.YtbfpepbfpebmmaaGreatTLinShSToXfS
import Derived.Test.YtbfpepbfpebmmaaGreatTLinSimX3ToShD
import Derived.Test.YtbfpepbfpebmmaaGreatTLinZShMixToZPfFieldI
import Derived.KernelRfl
import Derived.Test.YtbfpepbfpebmmaaGreatTLinZSpAToZSpU
import Derived.Test.YtbfpepbfpebmmaaGreatTLinShLw
import Derived.Test.YtbfpepbfpebmmaaGreatTLinZPfFieldT
import Derived.Test.YtbfpepbfpebmmaaGreatTLinZPfFieldOToZPfFieldS
import Derived.Test.YtbfpepbfpebmmaaGreatTLinZPfFieldW0
import Derived.Test.YtbfpepbfpebmmaaGreatTLinZPfFieldK
import Derived.Test.YtbfpepbfpebmmaaGreatTLinZPfFieldL
import Derived.Test.YtbfpepbfpebmmaaGreatTLinSimWToSimX2
set_option linter.all false
namespace Go.Sim
open Go Go.Proofs
theorem Row.someV {H:AH} {v:Value} {cs:List Value} (h:Row H v cs) (h0:cs≠[]):∃ a l c,v=.slice (some a) l c:=by
  rcases h with ⟨rfl,_⟩|⟨b,o,c,cc,e,op,r,rfl,_⟩
  · exact absurd rfl h0
  · exact⟨_,_,_,rfl⟩
theorem xbin_eqn {a:Addr} {l c:Nat}:xbin .eql 2 (.slice (some a) l c) (.slice none 0 0)=some (.bool false):=rfl
theorem Acc.own {H0 H:AH} {v:Value} {cs:List Value} {e:TypeId} (h:Acc H0 H v cs e) (h0:cs≠[]):Own H0 H v cs e:=by
  rcases h with ⟨h,_⟩|h
  · exact absurd h h0
  · exact h
section
variable {H:AH}
theorem clone_c {v:Value} {cs:List Value} (hv:Row H v cs) (h0:cs≠[]) (h1:cs.all one=true) (hl:cs.length≤100000) :
    FN Tryz.prog 102 [v] H (fun r H'=>Pre H H'∧Own H H' r cs 3):=by
  refine g102_of ?_
  unfold g102
  obtain⟨a,l,c,rfl⟩:=hv.someV h0
  obtain⟨v',H',e1,ha,hp,_⟩:=Acc.appR (H0:=H) (H:=H++[.cells [] 3 none false]) (by_:=8) (by simp) (Own.new (Nat.le_refl _) (cs:=[]) rfl (Y:=[])).acc ((hv.pre (Pre.new H _)).x h0) h1 (by simp;omega) (by simp;omega)
  simp only [List.length_nil,List.nil_append] at e1 ha
  simp (disch:=(first|omega|(simp only [qbf]<;>omega)|(simp only [qbd];done)|rfl)) only [zA,zB,zC,zD,zF,zG,zH,Nat.reduceEqDiff,Nat.reduceLT,Nat.reduceLeDiff,↓reduceIte,xbin_eqn,e1]
  exact⟨hp (Pre.new _ _),ha.own h0⟩
end
end Go.Sim

namespace Go.Sim.Pf
structure Lin (p:Nat) (l3 l1 l2:List Nat):Prop where
  n1:l1.length=l3.length
  n2:l2.length=l3.length
  b3:∀ z∈l3,z<p
  b1:∀ z∈l1,z<p
  b2:∀ z∈l2,z<p
  at_:∀ j,∃ t:Int,(l3.getD j 0:Int)=l1.getD j 0+l2.getD j 0+p*t
theorem qmd {p v i:Nat} {l:List Nat} (h:∀ z∈l,z<p) (hv:v<p):∀ z∈l.set i v,z<p:=by
  intro z hz
  rcases List.mem_or_eq_of_mem_set hz with h1|rfl
  · exact h z h1
  · exact hv
theorem Lin.set {p i v3 v1 v2:Nat} {l3 l1 l2:List Nat} (h:Lin p l3 l1 l2) (h3:v3<p) (h1:v1<p) (h2:v2<p) (hv:∃ t:Int,(v3:Int)=v1+v2+p*t):Lin p (l3.set i v3) (l1.set i v1) (l2.set i v2):=by
  refine⟨by simp [h.n1],by simp [h.n2],qmd h.b3 h3,qmd h.b1 h1,qmd h.b2 h2,fun j=>?_⟩
  by_cases hi:i<l3.length
  · rw [getD_set hi,getD_set (h.n1 ▸ hi),getD_set (h.n2 ▸ hi)]
    by_cases hj:i=j
    · rw [if_pos hj,if_pos hj,if_pos hj];exact hv
    · rw [if_neg hj,if_neg hj,if_neg hj];exact h.at_ j
  · rw [List.set_eq_of_length_le (by omega),List.set_eq_of_length_le (by have:=h.n1;omega),List.set_eq_of_length_le (by have:=h.n2;omega)]
    exact h.at_ j
theorem mod_lin {p a3 a1 a2:Nat} {t:Int} (h:(a3:Int)=a1+a2+p*t):∃ s:Int,((a3 % p:Nat):Int)=(a1 % p:Nat)+(a2 % p:Nat)+p*s:=by
  have e3:=Int.mul_ediv_add_emod (a3:Int) p
  have e1:=Int.mul_ediv_add_emod (a1:Int) p
  have e2:=Int.mul_ediv_add_emod (a2:Int) p
  simp only [Int.natCast_emod]
  generalize (a3:Int) / p=q3 at *
  generalize (a1:Int) / p=q1 at *
  generalize (a2:Int) / p=q2 at *
  exact⟨t-q3+q1+q2,by grind⟩
theorem Lin.fold {p:Nat} {f3 f1 f2:List Nat→Nat→List Nat} (h:∀ k l3 l1 l2,Lin p l3 l1 l2→Lin p (f3 l3 k) (f1 l1 k) (f2 l2 k)):∀ (ks:List Nat) (l3 l1 l2:List Nat),Lin p l3 l1 l2→Lin p (ks.foldl f3 l3) (ks.foldl f1 l1) (ks.foldl f2 l2)
  | [],_,_,_,hl=>hl
  | k :: ks,_,_,_,hl=>Lin.fold h ks _ _ _ (h k _ _ _ hl)
theorem mulL_lin {p e:Nat} {x3 y3 x1 y1 x2 y2:List Nat} (hp:0<p) (h:∀ i k,∃ t:Int,(x3.getD i 0:Int)*y3.getD k 0=x1.getD i 0*y1.getD k 0+x2.getD i 0*y2.getD k 0+p*t):Lin p (mulL p e x3 y3) (mulL p e x1 y1) (mulL p e x2 y2):=by
  refine Lin.fold (fun i l3 l1 l2 hl=>Lin.fold (fun k l3 l1 l2 hl=>?_) _ _ _ _ hl) _ _ _ _ ?_
  · obtain⟨t1,h1⟩:=hl.at_ (i+k)
    obtain⟨t2,h2⟩:=h i k
    refine hl.set (Nat.mod_lt _ hp) (Nat.mod_lt _ hp) (Nat.mod_lt _ hp) (mod_lin (t:=t1+t2) ?_)
    simp only [Int.natCast_add,Int.natCast_mul]
    rw [h1,h2]
    grind
  · have hz:∀ z∈List.replicate (2*e) 0,z<p:=by intro z hz;rw [List.mem_replicate] at hz;omega
    refine⟨rfl,rfl,hz,hz,hz,fun j=>⟨0,?_⟩⟩
    have:(List.replicate (2*e) 0).getD j 0=0:=by
      simp only [List.getD_eq_getElem?_getD,List.getElem?_replicate];split<;>rfl
    rw [this];rfl
theorem restL_lin {p d:Nat} {m l3 l1 l2:List Nat} (hp:0<p) (h:Lin p l3 l1 l2):Lin p (qkd p d m l3) (qkd p d m l1) (qkd p d m l2):=by
  unfold qkd
  rw [h.n1,h.n2]
  refine Lin.fold (fun t l3 l1 l2 hl=>?_) _ _ _ _ h
  unfold qqp
  rw [hl.n1,hl.n2]
  obtain⟨s,hs⟩:=hl.at_ (l3.length-1-t)
  have c3:=getD_lt (k:=l3.length-1-t) hp hl.b3
  have c1:=getD_lt (k:=l3.length-1-t) hp hl.b1
  have c2:=getD_lt (k:=l3.length-1-t) hp hl.b2
  generalize l3.getD (l3.length-1-t) 0=C3 at *
  generalize l1.getD (l3.length-1-t) 0=C1 at *
  generalize l2.getD (l3.length-1-t) 0=C2 at *
  generalize l3.length-1-t-d=B
  refine Lin.fold (fun k l3 l1 l2 hl=>?_) _ _ _ _ hl
  obtain⟨t1,h1⟩:=hl.at_ (B+k)
  refine hl.set (Nat.mod_lt _ hp) (Nat.mod_lt _ hp) (Nat.mod_lt _ hp) (mod_lin (t:=t1-(1+s)*m.getD k 0) ?_)
  have g3:((p-C3:Nat):Int)=(p:Int)-C3:=by omega
  have g1:((p-C1:Nat):Int)=(p:Int)-C1:=by omega
  have g2:((p-C2:Nat):Int)=(p:Int)-C2:=by omega
  simp only [Int.natCast_add,Int.natCast_mul,g3,g1,g2]
  rw [h1,hs]
  grind
theorem digE {p e a:Nat} (j:Nat):(digs p a e).getD j 0=if j<e then dg p a j else 0:=by
  by_cases h:j<e
  · rw [if_pos h,qd3 p e a j h];rfl
  · rw [if_neg h,List.getD_eq_getElem?_getD,List.getElem?_eq_none (by rw [qbp];omega)];rfl
theorem rmul_bil {p e:Nat} {m:List Nat} (F:Fd p e m) {a1 b1 a2 b2 a3 b3:Nat} (h:∀ i j,i<e→j<e→∃ t:Int,(dg p a3 i:Int)*dg p b3 j=dg p a1 i*dg p b1 j+dg p a2 i*dg p b2 j+p*t) :
    qd7 p e m a3 b3=addF p e (qd7 p e m a1 b1) (qd7 p e m a2 b2):=by
  have hp:0<p:=by have:=F.p2;omega
  have hL:=restL_lin (d:=e) (m:=m++[1]) hp (mulL_lin (e:=e) (x3:=digs p a3 e) (y3:=digs p b3 e) (x1:=digs p a1 e) (y1:=digs p b1 e) (x2:=digs p a2 e) (y2:=digs p b2 e) hp (fun i k=>by
    simp only [digE]
    by_cases hi:i<e
    · by_cases hk:k<e
      · simp only [hi,hk,if_true];exact h i k hi hk
      · exact⟨0,by simp [hk]⟩
    · exact⟨0,by simp [hi]⟩))
  have hlen:∀ x y,(qkd p e (m++[1]) (mulL p e (digs p x e) (digs p y e))).length=2*e∧∀ z∈qkd p e (m++[1]) (mulL p e (digs p x e) (digs p y e)),z<p:=by
    intro x y
    have hz0:∀ z∈List.replicate (2*e) 0,z<p:=by intro z hz;rw [List.mem_replicate] at hz;omega
    have q:=qcw (f:=mulI p e (digs p x e) (digs p y e)) (p:=p) (n:=2*e) (fun out k h1 h2=>qcw (fun out k h1 h2=>mulK_ok hp h1 h2) _ _ h1 h2) (List.range e) (List.replicate (2*e) 0) (by simp) hz0
    exact qcw (f:=qqp p e (m++[1])) (p:=p) (n:=2*e) (fun out k h1 h2=>restI_ok hp h1 h2) _ _ q.1 q.2
  have hdg:∀ x y i,i<e→dg p (qd7 p e m x y) i=(qkd p e (m++[1]) (mulL p e (digs p x e) (digs p y e))).getD i 0:=by
    intro x y i hi
    unfold dg qd7
    rw [qgg hp _ (fun z hz=>(hlen x y).2 z (List.mem_of_mem_take hz))]
    simp only [List.getD_eq_getElem?_getD,List.getElem?_take,if_pos hi]
  have hlt:∀ x y,qd7 p e m x y<p ^ e:=by
    intro x y
    have:=qm4 (p:=p) hp ((qkd p e (m++[1]) (mulL p e (digs p x e) (digs p y e))).take e) (fun z hz=>(hlen x y).2 z (List.mem_of_mem_take hz))
    rwa [List.length_take,(hlen x y).1,Nat.min_eq_left (by omega)] at this
  refine qcz hp e _ _ (hlt _ _) (qft hp) (fun i hi=>?_)
  refine Eq.trans ?_ (qdx (a:=qd7 p e m a1 b1) (b:=qd7 p e m a2 b2) hp hi).symm
  obtain⟨t,ht⟩:=hL.at_ i
  rw [←hdg _ _ i hi,←hdg _ _ i hi,←hdg _ _ i hi] at ht
  exact mod_of hp (dg_lt hp) ht
def rmB (p e:Nat) (m:List Nat):Bool:=(List.range e).all fun i=>(List.range e).all fun j=>Nat.beq (qd7 p e m (p ^ i) (p ^ j)) (mulF p e m (p ^ i) (p ^ j))
theorem rmul_eq {p e:Nat} {m:List Nat} {g:Nat} {E:List Nat} (F:FT p e m g E) (hr:rmB p e m=true) (a b:Nat) (ha:a<p ^ e) (hb:b<p ^ e):qd7 p e m a b=mulF p e m a b:=by
  have hp:=F.hp
  have hadd1:∀ a b c,qd7 p e m (addF p e a b) c=addF p e (qd7 p e m a c) (qd7 p e m b c):=fun a b c=>by
    refine rmul_bil F.toFd (fun i j hi hj=>?_)
    obtain⟨t,ht⟩:=qh9 (p:=p) (e:=e) (a:=a) (b:=b) hp hi
    exact⟨t*dg p c j,by rw [ht];grind⟩
  have hadd2:∀ a b c,qd7 p e m a (addF p e b c)=addF p e (qd7 p e m a b) (qd7 p e m a c):=fun a b c=>by
    refine rmul_bil F.toFd (fun i j hi hj=>?_)
    obtain⟨t,ht⟩:=qh9 (p:=p) (e:=e) (a:=b) (b:=c) hp hj
    exact⟨t*dg p a i,by rw [ht];grind⟩
  have hz:∀ x,addF p e x x=x→x<p ^ e→x=0:=fun x hx hlt=>by
    have h1:=sub_addF (e:=e) (a:=x) (b:=x) hp hlt
    rw [hx] at h1
    have h2:subF p e x x=0:=by
      refine qcz hp e _ _ (subF_lt hp) (Nat.pow_pos hp) (fun i hi=>?_)
      refine (subF_dg hp hi).trans ?_
      have:=dg_lt (p:=p) (a:=x) (i:=i) hp
      rw [show dg p x i+p-dg p x i=p by omega,Nat.mod_self]
      exact dg_zero.symm
    omega
  have h00:addF p e 0 0=0:=qr3 hp (Nat.pow_pos hp)
  have hlt:∀ a b,qd7 p e m a b=0∨qd7 p e m a b<p ^ e:=fun a b=>by
    right
    have h:=rmul_bil F.toFd (a3:=a) (b3:=b) (a1:=a) (b1:=b) (a2:=0) (b2:=0) (fun i j hi hj=>⟨0,by simp [dg_zero]⟩)
    rw [h];exact qft hp
  have hr0:∀ b,qd7 p e m 0 b=0:=fun b=>by
    have h:=hadd1 0 0 b
    rw [h00] at h
    rcases hlt 0 b with h1|h1
    · exact h1
    · exact hz _ h.symm h1
  have hr1:∀ a,qd7 p e m a 0=0:=fun a=>by
    have h:=hadd2 a 0 0
    rw [h00] at h
    rcases hlt a 0 with h1|h1
    · exact h1
    · exact hz _ h.symm h1
  refine F.gen (fun a=>qd7 p e m a b=mulF p e m a b) ?_ (fun i hi=>?_) (fun x y hx hy=>?_) a ha
  · rw [hr0,qgj F.toFd _ _ (.inl rfl)]
  · refine F.gen (fun b=>qd7 p e m (p ^ i) b=mulF p e m (p ^ i) b) ?_ (fun j hj=>?_) (fun x y hx hy=>?_) b hb
    · rw [hr1,qgj F.toFd _ _ (.inr rfl)]
    · exact Nat.eq_of_beq_eq_true (List.all_eq_true.1 (List.all_eq_true.1 hr i (List.mem_range.2 hi)) j (List.mem_range.2 hj))
    · rw [hadd2,qd0 F.toFd,hx,hy]
  · rw [hadd1,qf2 F.toFd,hx,hy]
theorem rsub_eq {p e a b:Nat} (hp:0<p):addF p e a (negF p e b)=subF p e a b:=by
  have hneg:∀ i,i<e→dg p (negF p e b) i=(p-dg p b i) % p:=by
    intro i hi
    have hl:∀ z∈negL p (digs p b e),z<p:=by
      intro z hz
      simp only [negL,List.mem_map] at hz
      obtain⟨w,_,rfl⟩:=hz
      exact Nat.mod_lt _ hp
    unfold negF
    have h1:=qgg hp (negL p (digs p b e)) hl i
    refine h1.trans ?_
    have l1:=qbp p e b
    have h2:dg p b i=(digs p b e).getD i 0:=(qd3 p e b i hi).symm
    rw [h2]
    simp only [negL,List.getD_eq_getElem?_getD,List.getElem?_map]
    rw [List.getElem?_eq_getElem (by omega)]
    rfl
  refine qcz hp e _ _ (qft hp) (subF_lt hp) (fun i hi=>?_)
  refine (qdx hp hi).trans (Eq.trans ?_ (subF_dg hp hi).symm)
  rw [hneg i hi,Nat.add_mod_mod]
  have:=dg_lt (p:=p) (a:=b) (i:=i) hp
  congr 1;omega
end Go.Sim.Pf

namespace Go.Sim.Pf
open Go Go.Proofs
structure FM (p e:Nat) (m:List Nat) (g:Nat) (E fs:List Nat):Prop extends FT p e m g E where
  rm:rmB p e m=true
theorem neg_eq {p e b:Nat} (hp:0<p):negF p e b=subF p e 0 b:=by
  have h:=rsub_eq (e:=e) (a:=0) (b:=b) hp
  have hl:(negL p (digs p b e)).length=e:=by simp [negL,qbp]
  have hlt:negF p e b<p ^ e:=by
    have:=qm4 (p:=p) hp (negL p (digs p b e)) (by
      intro z hz
      simp only [negL,List.mem_map] at hz
      obtain⟨w,_,rfl⟩:=hz
      exact Nat.mod_lt _ hp)
    rwa [hl] at this
  rw [addF_comm hp,qr3 hp hlt] at h
  exact h
section
variable {p e b c x:Nat} {m fs:List Nat} {g:Nat} {E:List Nat} {H:AH} {el:TypeId} {op:Option Nat} {r:Bool}
theorem rmulM (F:FM p e m g E fs) (hb:H[b]? = some (.cells (m.map nv) el op r)) {y:Nat} (hx:x<p ^ e) (hy:y<p ^ e):FN Tryz.prog 132 [fldv p e b e c,nv x,nv y] H (fun v H'=>v=nv (mulF p e m x y)∧H'=H):=by
  have hq:=F.q
  have h:=rmul_spec (c:=c) hb F.len F.lt F.p2 F.e1 F.e6 F.q (show x<1000 by omega) (show y<1000 by omega)
  rwa [rmul_eq F.toFT F.rm x y hx hy] at h
theorem inv_uniq (F:FM p e m g E fs) {y:Nat} (hx:x<p ^ e) (h0:x≠0) (hy:y<p ^ e) (h:mulF p e m x y=1):y=pw p e m x (p ^ e-2):=by
  have hI:=F.mul_inv x hx h0
  have hlt:=F.pw_lt x (p ^ e-2)
  generalize pw p e m x (p ^ e-2)=I at *
  have h1:mulF p e m I (mulF p e m x y)=y:=by
    rw [←F.mul_assoc _ _ _ hlt hx hy,F.mul_comm I x hlt hx,hI,F.one_mul y hy]
  rw [h,F.mul_one I hlt] at h1
  exact h1.symm
theorem powZ_inv (F:FM p e m g E fs) (hx:x<p ^ e) (h0:x≠0):powZ p e m x (-1)=(pw p e m x (p ^ e-2),0):=by
  have:=F.q2
  have h1:((-1:Int) % ((p ^ e:Nat)-1:Int)).toNat=p ^ e-2:=by
    rcases Nat.eq_or_lt_of_le this with h|h
    · rw [←h];rfl
    · have:(-1:Int) % ((p ^ e:Nat)-1:Int)=((p ^ e:Nat)-2:Int):=by
        rw [←Int.add_mul_emod_self_left (-1) _ 1]
        rw [Int.emod_eq_of_lt (by omega) (by omega)]
        omega
      omega
  unfold powZ
  rw [if_neg (by omega),if_neg h0,h1,F.powF x _ hx]
theorem rinv_spec (F:FM p e m g E fs) (hb:H[b]? = some (.cells (m.map nv) el op r)) (hx:x<p ^ e) :
    FN Tryz.prog 107 [fldv p e b e c,nv x] H (fun v H'=>v=.tuple [nv (powZ p e m x (-1)).1,nv (powZ p e m x (-1)).2].toArray∧H'=H):=by
  have hb2:=fun (Y:AH)=>qcv (L:=Y) hb
  have hq:=F.q
  refine FN.gc0 (FN.of_compZ qbs xf107_ok (Nat.le_of_ble_eq_true rfl) ?_)
  by_cases h0:x=0
  · subst h0
    simp (disch:=(first|omega|(simp only [List.length_map];omega)|(simp only [qbf]<;>omega)|(simp only [qbd];done)|rfl)) only [↓qbk,zC,zD,zF,zG,zH,Nat.reduceEqDiff,Nat.reduceLT,Nat.reduceLeDiff,↓reduceIte,xf107]
    simp [ground,scal,powZ]
  · rw [powZ_inv F hx h0]
    have hI:=F.mul_inv x hx h0
    have hu:=fun y hy=>inv_uniq F (x:=x) (y:=y) hx h0 hy
    have hlt:=F.pw_lt x (p ^ e-2)
    have hne:=F.pw_ne x (p ^ e-2) hx h0
    generalize pw p e m x (p ^ e-2)=I at *
    simp (disch:=(first|omega|(simp only [List.length_map];omega)|(simp only [qbf]<;>omega)|(simp only [qbd];done)|rfl)) only [↓qbk,zC,zD,zF,zG,zH,Nat.reduceEqDiff,Nat.reduceLT,Nat.reduceLeDiff,↓reduceIte,xf107,h0]
    refine LZ.nat (I-1) (fun k s H'=>s.env 1=nv x∧s.env 2=.pointer (some ⟨H.length,0,none⟩)∧s.env 6=nv (k+1)∧s.ds=[]∧H'=H++[.cells [nv p,nv e,.slice (some ⟨b,0,none⟩) e c] 76 none false]) ?_ ?_ ?_
    · simp (disch:=(first|omega|(simp only [List.length_map];omega)|(simp only [qbf]<;>omega)|(simp only [qbd];done)|rfl)) only [↓qbk,zC,zD,zF,zG,zH,Nat.reduceEqDiff,Nat.reduceLT,Nat.reduceLeDiff,↓reduceIte]
    · rintro k s H1 hk ⟨e1,e2,e6,eds,rfl⟩
      have hk1:k+1<p ^ e:=by omega
      have hn1:¬mulF p e m x (k+1)=1:=fun h=>by have:=hu (k+1) hk1 h;omega
      simp (disch:=(first|omega|(simp only [List.length_map];omega)|(simp only [qbf]<;>omega)|(simp only [qbd];done)|rfl)) only [↓qbk,zC,zD,zF,zG,zH,Nat.reduceEqDiff,Nat.reduceLT,Nat.reduceLeDiff,↓reduceIte,e1,e2,e6,eds]
      refine FZ.use (qk5 F.p2 F.q) ?_
      simp (disch:=(first|omega|(simp only [List.length_map];omega)|(simp only [qbf]<;>omega)|(simp only [qbd];done)|rfl)) only [↓qbk,zC,zD,zF,zG,zH,Nat.reduceEqDiff,Nat.reduceLT,Nat.reduceLeDiff,↓reduceIte,e1,e2,e6,eds,hk1]
      refine FZ.use (rmulM F (hb2 _) hx hk1) ?_
      simp (disch:=(first|omega|(simp only [List.length_map];omega)|(simp only [qbf]<;>omega)|(simp only [qbd];done)|rfl)) only [↓qbk,zC,zD,zF,zG,zH,Nat.reduceEqDiff,Nat.reduceLT,Nat.reduceLeDiff,↓reduceIte,e1,e2,e6,eds,hn1]
    · rintro s H1 ⟨e1,e2,e6,eds,rfl⟩
      have hI1:I-1+1=I:=by omega
      rw [hI1] at e6
      simp (disch:=(first|omega|(simp only [List.length_map];omega)|(simp only [qbf]<;>omega)|(simp only [qbd];done)|rfl)) only [↓qbk,zC,zD,zF,zG,zH,Nat.reduceEqDiff,Nat.reduceLT,Nat.reduceLeDiff,↓reduceIte,e1,e2,e6,eds]
      refine FZ.use (qk5 F.p2 F.q) ?_
      simp (disch:=(first|omega|(simp only [List.length_map];omega)|(simp only [qbf]<;>omega)|(simp only [qbd];done)|rfl)) only [↓qbk,zC,zD,zF,zG,zH,Nat.reduceEqDiff,Nat.reduceLT,Nat.reduceLeDiff,↓reduceIte,e1,e2,e6,eds,hlt]
      refine FZ.use (rmulM F (hb2 _) hx hlt) ?_
      simp (disch:=(first|omega|(simp only [List.length_map];omega)|(simp only [qbf]<;>omega)|(simp only [qbd];done)|rfl)) only [↓qbk,zC,zD,zF,zG,zH,Nat.reduceEqDiff,Nat.reduceLT,Nat.reduceLeDiff,↓reduceIte,e1,e2,e6,eds,hI,xf107]
      simp [ground,scal]
theorem rnegM (hp:2≤p) (he:1≤e) (he6:e≤6) (hq:p ^ e≤64) {n:Nat} (hx:x<1000):FN Tryz.prog 81 [fldv p e b n c,nv x] H (fun v H'=>v=nv (subF p e 0 x)∧H'=H):=by
  have h:=rneg_spec (b:=b) (n:=n) (c:=c) (H:=H) hp he he6 hq hx
  rwa [neg_eq (by omega)] at h
end
end Go.Sim.Pf

namespace Go.Sim
open Go Go.Proofs
structure FQ (α:Type) [Fl α] (cd:α→Nat) (p e q:Nat) (blk:AB):Prop where
  ok:∀ b,FOK α cd p e b e q blk
  make:∀ H:AH,FN Tryz.prog 111 [nv q] H (fun r H'=>r=.tuple [fldv p e H.length e e,nv 0].toArray∧H'=H++[blk])
  rmake:∀ H:AH,FN Tryz.prog 109 [nv q] H (fun r H'=>r=.tuple [fldv p e H.length e e,nv 0].toArray∧H'=H++[blk])
end Go.Sim
namespace Go.Sim.Pf
open Go Go.Proofs
@[reducible] def flOf {p e g:Nat} {m E:List Nat} (F:FT p e m g E):Fl {n:Nat // n<p ^ e} where
  zero:=⟨0,by have:=F.q2;omega⟩
  one:=⟨1,by have:=F.q2;omega⟩
  add a b:=⟨addF p e a.1 b.1,qft F.hp⟩
  mul a b:=⟨mulF p e m a.1 b.1,F.mul_lt _ _⟩
  neg a:=⟨subF p e 0 a.1,subF_lt F.hp⟩
  inv a:=⟨pw p e m a.1 (p ^ e-2),F.pw_lt _ _⟩
  add_comm a b:=Subtype.ext (addF_comm F.hp _ _)
  add_assoc a b c:=Subtype.ext (addF_assoc F.hp _ _ _)
  add_zero a:=Subtype.ext (qr3 F.hp a.2)
  add_neg a:=Subtype.ext (add_negF F.hp)
  mul_comm a b:=Subtype.ext (F.mul_comm _ _ a.2 b.2)
  mul_assoc a b c:=Subtype.ext (F.mul_assoc _ _ _ a.2 b.2 c.2)
  mul_one a:=Subtype.ext (F.mul_one _ a.2)
  mul_add a b c:=Subtype.ext (qd0 F.toFd _ _ _)
  mul_inv a h:=Subtype.ext (F.mul_inv _ a.2 (fun h0=>h (Subtype.ext h0)))
  one_ne:=fun h=>by have:=congrArg Subtype.val h;simp at this
theorem fokOf {p e g:Nat} {m E:List Nat} (F:FT p e m g E) (hr:rmB p e m=true) (b:Nat) :
    @FOK {n:Nat // n<p ^ e} (flOf F) (fun x=>x.1) p e b e (p ^ e) (.cells (m.map nv) 3 (some 1) false):=by
  letI:=flOf F
  have hq:=F.q
  have hp64:p≤64:=by have:=qc1 (k:=1) F.p2 F.e1 F.q;simpa using this
  have he6:=F.e6
  have lt:∀ x:{n:Nat // n<p ^ e},x.1<1000:=fun x=>by have:=x.2;omega
  have hsub:∀ x y:{n:Nat // n<p ^ e},subF p e x.1 y.1=(Fl.add x (Fl.neg y)).1:=fun x y=>by
    show _=addF p e x.1 (subF p e 0 y.1)
    rw [←neg_eq F.hp,rsub_eq F.hp]
  have FMm:FM p e m g E []:={ toFT:=F,rm:=hr }
  constructor
  · intro x y h;exact Subtype.ext h
  · intro x;exact x.2
  · intro n hn;exact⟨⟨n,hn⟩,rfl⟩
  · rfl
  · rfl
  · exact F.q
  · exact F.q2
  · intro H x y hb;exact qpj hb F.len F.lt F.p2 F.e1 F.e6 F.q (lt x) (lt y)
  · intro H x y hb;exact add_spec F.p2 F.e1 F.e6 rfl F.q (lt x) (lt y)
  · intro H x y hb;rw [←hsub];exact sub_spec F.p2 F.e1 F.e6 rfl F.q (lt x) (lt y)
  · intro H x hb;exact neg_spec F.p2 F.e1 F.e6 rfl F.q (lt x)
  · intro H x hb h0
    have h0':x.1≠0:=fun h=>h0 (Subtype.ext h)
    have h:=inv_spec (c:=e) hb F.len F.lt F.p2 F.e1 F.e6 F.q (lt x)
    rw [powZ_inv FMm x.2 h0'] at h
    exact h
  · intro H hb;exact size_spec F.p2 F.e1 F.e6 rfl F.q
  · intro H x y hb;exact rmulM FMm hb x.2 y.2
  · intro H x y hb;exact radd_spec F.p2 F.e1 F.e6 F.q (lt x) (lt y)
  · intro H x hb;exact rnegM F.p2 F.e1 F.e6 F.q (lt x)
  · intro H x hb h0
    have h0':x.1≠0:=fun h=>h0 (Subtype.ext h)
    have h:=rinv_spec (c:=e) FMm hb x.2
    rw [powZ_inv FMm x.2 h0'] at h
    exact h
  · intro H hb;exact qk5 F.p2 F.q
theorem fq_of {p e g q:Nat} {m E:List Nat} (F:FT p e m g E) (hq:q=p ^ e) (hr:rmB p e m=true) (h1:qmq Tryz.prog 111 [nv q] (.fld p e e e 0 (.cells (m.map nv) 3 (some 1) false))) (h2:qmq Tryz.prog 109 [nv q] (.fld p e e e 0 (.cells (m.map nv) 3 (some 1) false))) :
    @FQ {n:Nat // n<p ^ e} (flOf F) (fun x=>x.1) p e q (.cells (m.map nv) 3 (some 1) false):=by
  letI:=flOf F
  subst hq
  exact⟨fun b=>fokOf F hr b,h1,h2⟩
def ordM (j:Nat):Nat:=[2,3,4,5,7,8].getD j 0
theorem fq_at:∀ j,j<6→∃ (α:Type) (i1:Fl α) (_:DecidableEq α) (cd:α→Nat) (p e:Nat) (blk:AB),FQ α cd p e (ordM j) blk
  | 0,_=>⟨_,flOf ft2,inferInstance,_,_,_,_,fq_of ft2 rfl (by decide +kernel) (qgp _ (List.mem_of_getElem? (i:=2) rfl)) (qgn _ (List.mem_of_getElem? (i:=2) rfl))⟩
  | 1,_=>⟨_,flOf ft3,inferInstance,_,_,_,_,fq_of ft3 rfl (by decide +kernel) (qgp _ (List.mem_of_getElem? (i:=3) rfl)) (qgn _ (List.mem_of_getElem? (i:=3) rfl))⟩
  | 2,_=>⟨_,flOf ft4,inferInstance,_,_,_,_,fq_of ft4 rfl (by decide +kernel) (qgp _ (List.mem_of_getElem? (i:=4) rfl)) (qgn _ (List.mem_of_getElem? (i:=4) rfl))⟩
  | 3,_=>⟨_,flOf ft5,inferInstance,_,_,_,_,fq_of ft5 rfl (by decide +kernel) (qgp _ (List.mem_of_getElem? (i:=5) rfl)) (qgn _ (List.mem_of_getElem? (i:=5) rfl))⟩
  | 4,_=>⟨_,flOf ft7,inferInstance,_,_,_,_,fq_of ft7 rfl (by decide +kernel) (qgp _ (List.mem_of_getElem? (i:=7) rfl)) (qgn _ (List.mem_of_getElem? (i:=7) rfl))⟩
  | 5,_=>⟨_,flOf ft8,inferInstance,_,_,_,_,fq_of ft8 rfl (by decide +kernel) (qgp _ (List.mem_of_getElem? (i:=8) rfl)) (qgn _ (List.mem_of_getElem? (i:=8) rfl))⟩
  | n+6,h=>absurd h (by omega)
end Go.Sim.Pf

namespace Go.Sim
open Go Go.Proofs
theorem qc7 {H:AH} {x y z c0 c1 c2:Value} {e:TypeId} {op:Option Nat} {bl:Nat} (h1:one x=true) (h2:one y=true) (h3:one z=true):stB 3 H (some (.cells [c0,c1,c2] e op false)) bl 0 (.agg #[x,y,z])=some (undef,H.set bl (.cells [x,y,z] e op false)):=
  qgt (c':=[x,y,z]) rfl rfl (by simp [h1,h2,h3])
section
variable {α:Type} [Fl α] [DecidableEq α] {cd:α→Nat} {p e b c q:Nat} {blk:AB} {H:AH}
abbrev codv (q n:Nat) (v:Value):Value:=.agg [nv q,nv n,v].toArray
theorem rtimes_c (F:FOK α cd p e b c q blk) {v:Value} {xs:List α} {a:α} (hb:H[b]? = some blk) (hv:Row H v (evs cd xs)) (hx:xs.length≤1000) :
    FN Tryz.prog 74 [fldv p e b e c,nv (cd a),v] H (fun r H'=>Pre H H'∧Acc H H' r (evs cd (xs.map (Fl.mul a))) 3):=by
  refine g74_of ?_
  unfold g74
  simp (disch:=omega) only [zA,zB,zC,zD,zF,zG,zH,↓reduceIte]
  refine loopV2.nat xs.length (fun k out i H'=>i=nv k∧Pre (H++[fbx p e b c]) H'∧Acc (H++[fbx p e b c]) H' out (evs cd ((xs.map (Fl.mul a)).take k)) 3) ?_ ?_ ?_
  · exact⟨rfl,Pre.snoc _ _ _,Acc.start1 rfl⟩
  · rintro k out i H3 hk ⟨rfl,hp,ho⟩ J hJ
    have hbx:=hp.get (b:=H.length) (x:=fbx p e b c) (by simp)
    have hp0:=(Pre.new H _).trans hp
    have hb3:=hp0.get hb
    obtain⟨vl,vi,vd,_⟩:=(hv.pre hp0).all Fl.zero
    simp (disch:=omega) only [zA,zB,zC,zD,zF,zG,zH,↓reduceIte,hbx,vl,vi,vd,hk]
    refine FZ.use (F.rmul H3 _ _ hb3) ?_
    have hlen:(evs cd ((xs.map (Fl.mul a)).take k)).length≤1000:=by simp;omega
    obtain⟨out',H5,e1,ho',hp',_⟩:=ho.app1 (by_:=8) hp.len (u:=nv (cd (Fl.mul a (xs.getD k Fl.zero)))) rfl (by omega) (by omega) (e2:=3)
    simp (disch:=(first|omega|(simp only [qbf]<;>omega)|(simp only [qbd];done)|rfl)) only [zA,zB,zC,zD,zF,zG,zH,Nat.reduceEqDiff,Nat.reduceLT,Nat.reduceLeDiff,↓reduceIte,e1,hk]
    refine hJ _ _ _ ⟨rfl,hp' hp,?_⟩
    rw [List.take_succ_eq_append_getElem (by simpa using hk)]
    simpa [List.getD_eq_getElem?_getD,List.getElem?_eq_getElem hk] using ho'
  · rintro out i H3 ⟨rfl,hp,ho⟩ J
    have hp0:=(Pre.new H _).trans hp
    obtain⟨vl,vi,vd,_⟩:=(hv.pre hp0).all Fl.zero
    simp (disch:=omega) only [zA,zB,zC,zD,zF,zG,zH,↓reduceIte,vl]
    rw [List.take_of_length_le (by simp)] at ho
    exact⟨hp0,ho.mono (by simp)⟩
def qfq (xs ys:List α):List α:=List.zipWith Fl.add xs ys
theorem rplus_c (F:FOK α cd p e b c q blk) {v w:Value} {xs ys:List α} (hb:H[b]? = some blk) (hv:Row H v (evs cd xs)) (hw:Row H w (evs cd ys)) (hl:xs.length=ys.length) (hx:xs.length≤1000) :
    FN Tryz.prog 108 [fldv p e b e c,v,w] H (fun r H'=>Pre H H'∧Acc H H' r (evs cd (qfq xs ys)) 3):=by
  refine g108_of ?_
  unfold g108
  simp (disch:=omega) only [zA,zB,zC,zD,zF,zG,zH,↓reduceIte]
  refine loopV2.nat xs.length (fun k out i H'=>i=nv k∧Pre (H++[fbx p e b c]) H'∧Acc (H++[fbx p e b c]) H' out (evs cd ((qfq xs ys).take k)) 3) ?_ ?_ ?_
  · exact⟨rfl,Pre.snoc _ _ _,Acc.start1 rfl⟩
  · rintro k out i H3 hk ⟨rfl,hp,ho⟩ J hJ
    have hbx:=hp.get (b:=H.length) (x:=fbx p e b c) (by simp)
    have hp0:=(Pre.new H _).trans hp
    have hb3:=hp0.get hb
    have hky:k<ys.length:=by omega
    obtain⟨vl,vi,vd,_⟩:=(hv.pre hp0).all Fl.zero
    obtain⟨wl,wi,wd,_⟩:=(hw.pre hp0).all Fl.zero
    simp (disch:=omega) only [zA,zB,zC,zD,zF,zG,zH,↓reduceIte,hbx,vl,vi,vd,wl,wi,wd,hk,hky]
    refine FZ.use (F.radd H3 _ _ hb3) ?_
    have hlen:(evs cd ((qfq xs ys).take k)).length≤1000:=by simp;omega
    obtain⟨out',H5,e1,ho',hp',_⟩:=ho.app1 (by_:=8) hp.len (u:=nv (cd (Fl.add (xs.getD k Fl.zero) (ys.getD k Fl.zero)))) rfl (by omega) (by omega) (e2:=3)
    simp (disch:=(first|omega|(simp only [qbf]<;>omega)|(simp only [qbd];done)|rfl)) only [zA,zB,zC,zD,zF,zG,zH,Nat.reduceEqDiff,Nat.reduceLT,Nat.reduceLeDiff,↓reduceIte,e1,hk]
    refine hJ _ _ _ ⟨rfl,hp' hp,?_⟩
    rw [List.take_succ_eq_append_getElem (by simp [qfq];omega)]
    simpa [qfq,List.getD_eq_getElem?_getD,List.getElem?_eq_getElem hk,List.getElem?_eq_getElem hky] using ho'
  · rintro out i H3 ⟨rfl,hp,ho⟩ J
    have hp0:=(Pre.new H _).trans hp
    obtain⟨vl,vi,vd,_⟩:=(hv.pre hp0).all Fl.zero
    simp (disch:=omega) only [zA,zB,zC,zD,zF,zG,zH,↓reduceIte,vl]
    rw [List.take_of_length_le (by simp [qfq];omega)] at ho
    exact⟨hp0,ho.mono (by simp)⟩
theorem evr_nv (xss:List (List α)):evr cd xss=(xss.map fun l=>l.map cd).map fun l=>l.map nv:=by simp [evs,Function.comp_def]
end
end Go.Sim

namespace Go.Sim
open Go Go.Proofs
section
variable {α:Type} [Fl α] [DecidableEq α] {cd:α→Nat} {p e b c q:Nat} {blk:AB} {H:AH}
structure Spn (cd:α→Nat) (n0 sb:Nat) (vs:List Value) (op:Option Nat) (H:AH) (M:List (List α)):Prop where
  blk:H[sb]? = some (.cells vs 31 op false)
  rws:Rws H vs (evr cd M)
  low:∀ x∈vs,Lw.Lo n0 x
  sn:n0≤sb
theorem Spn.len {n0 sb:Nat} {vs:List Value} {op:Option Nat} {M:List (List α)} (h:Spn cd n0 sb vs op H M):vs.length=M.length:=by have:=h.rws.1;simpa using this
theorem Spn.row {n0 sb:Nat} {vs:List Value} {op:Option Nat} {M:List (List α)} (h:Spn cd n0 sb vs op H M) {k:Nat} (hk:k<M.length):Row H (vs.getD k undef) (evs cd (M.getD k [])):=by
  have:=h.rws.2 k (by simpa using hk)
  rwa [show ([]:List Value)=evs cd [] from rfl,qdg] at this
theorem Spn.spine {n0 sb:Nat} {vs:List Value} {op:Option Nat} {M:List (List α)} (h:Spn cd n0 sb vs op H M) {l m:Nat} (hl:l=M.length) (hm:l≤m):Row H (.slice (some ⟨sb,0,none⟩) l m) vs:=Row.of h.blk (by rw [h.len,hl]) hm
theorem Spn.pre {n0 sb:Nat} {vs:List Value} {op:Option Nat} {M:List (List α)} (h:Spn cd n0 sb vs op H M) {H':AH} (hp:Pre H H'):Spn cd n0 sb vs op H' M:=⟨hp.get h.blk,h.rws.pre hp,h.low,h.sn⟩
theorem Spn.set {n0 sb:Nat} {vs:List Value} {op:Option Nat} {M:List (List α)} (h:Spn cd n0 sb vs op H M) {k:Nat} (hk:k<M.length) {w:Value} {xs:List α} (hw:Row H w (evs cd xs)) (hlo:Lw.Lo n0 w) :
    Spn cd n0 sb (vs.set k w) op (H.set sb (.cells (vs.set k w) 31 op false)) (M.set k xs):=by
  have hlt:=qbr h.blk
  have hl:=h.len
  have hkeep:∀ r cs,Row H r cs→cs.all qk9=true→Row (H.set sb (.cells (vs.set k w) 31 op false)) r cs:=fun r cs hr hc=>hr.keep hc h.blk h.rws.isSl fun b' _ hne=>List.getElem?_set_ne (Ne.symm hne)
  refine⟨List.getElem?_set_self hlt,⟨by simp [hl],fun j hj=>?_⟩,fun x hx=>?_,h.sn⟩
  · simp only [List.length_map,List.length_set] at hj
    rw [show ([]:List Value)=evs cd [] from rfl,qdg,getD_set (by omega),getD_set hk]
    by_cases hjk:j=k
    · rw [if_pos hjk,if_pos hjk];exact hkeep _ _ hw (qhj _)
    · rw [if_neg hjk,if_neg hjk];exact hkeep _ _ (h.row hj) (qhj _)
  · rcases List.mem_or_eq_of_mem_set hx with hx|rfl
    · exact h.low x hx
    · exact hlo
theorem Spn.keep {n0 sb:Nat} {vs:List Value} {op:Option Nat} {M:List (List α)} (h:Spn cd n0 sb vs op H M) {r:Value} {xs:List α} (hr:Row H r (evs cd xs)) {y:AB}:Row (H.set sb y) r (evs cd xs):=hr.keep (qhj _) h.blk h.rws.isSl fun b' _ hne=>List.getElem?_set_ne (Ne.symm hne)
theorem Spn.ldB {n0 sb:Nat} {vs:List Value} {op:Option Nat} {M:List (List α)} (h:Spn cd n0 sb vs op H M) {k:Nat} (hk:k<vs.length):qdm none H[sb]? k=some (vs.getD k undef):=by
  rw [h.blk]
  simp [qdm,qdc,List.getD_eq_getElem?_getD,List.getElem?_eq_getElem hk]
theorem Spn.at_ {n0 sb:Nat} {vs:List Value} {op:Option Nat} {M:List (List α)} (h:Spn cd n0 sb vs op H M) {k:Nat} (hk:k<M.length):Lw.Lo n0 (vs.getD k undef):=h.low _ (getD_mem (by rw [h.len];exact hk))
theorem lsub_plus {xs ys:List α} {a:α}:qfq xs (ys.map (Fl.mul (Fl.neg a)))=lsub xs a ys:=by
  unfold qfq lsub
  rw [List.zipWith_map_right]
  congr 1
  funext x y
  have:Fl.mul (Fl.neg a) y=Fl.neg (Fl.mul a y):=by
    refine Fl.add_left_cancel (a:=Fl.mul a y) ?_
    rw [Fl.add_neg,←Fl.add_mul,Fl.add_neg,Fl.zero_mul]
  rw [this]
theorem RedTo.full {n col:Nat} {M:List (List α)} {P:List Nat} (h:RedTo n col M P) (hc:col≤n) (hl:P.length=M.length∨col=n):RedTo n n M P:=by
  rcases hl with hl|rfl
  · exact⟨h.len,h.width,fun i hi=>by have:=h.lt i hi;omega,h.inc,h.one,h.alone,h.lead,fun k j hk hm=>by omega⟩
  · exact h
theorem rreduce_c (F:FOK α cd p e b c q blk) {v:Value} {n:Nat} {rows:List (List α)} (hb:H[b]? = some blk) (hv:RowR H v (evr cd rows)) (hl:∀ x∈rows,x.length=n) (hR:rows.length≤400) (hn:n≤1000) (hn0:0<n) :
    FN Tryz.prog 61 [fldv p e b e c,nv n,v] H (fun r H'=>Pre H H'∧Lw.RowLo H.length H' r (evr cd (qb4 rows))):=by
  refine g61_of ?_
  unfold g61
  obtain⟨vs,hvs,hvl,hvr⟩:=hv.open
  simp (disch:=omega) only [zA,zB,zC,zD,zF,zG,zH,↓reduceIte]
  refine loopV2.nat rows.length (fun k out i H'=>i=nv k∧Pre (H++[fbx p e b c]) H'∧((∃ l,out=.slice (some ⟨l,0,none⟩) k k)∧Lw.AccLo (H++[fbx p e b c]) H' out (evr cd (rows.take k)) 31)) ⟨rfl,Pre.snoc _ _ _,⟨_,rfl⟩,?_⟩ ?_ ?_
  · refine⟨[],?_,⟨rfl,by simp⟩,by simp,by simp⟩
    have:=Own.new (H0:=H++[fbx p e b c]) (H:=H++[fbx p e b c]) (Nat.le_refl _) (cs:=[]) (e:=31) rfl (Y:=[])
    simpa using this.acc
  · rintro k out i H3 hk ⟨rfl,hp,⟨sb,rfl⟩,ho⟩ J hJ
    have hp0:=(Pre.new H _).trans hp
    obtain⟨vl,vi,vd,vd2⟩:=(hvs.pre hp0).allV
    have hk':k<vs.length:=by omega
    have hwk:=qcd hl hk
    have hne:evs cd (rows.getD k [])≠[]:=fun h=>by have h2:=congrArg List.length h;rw [List.length_map,hwk] at h2;simp at h2;omega
    have hcl:(evs cd (rows.getD k [])).length=n:=by rw [List.length_map,hwk]
    have hrow:=(hvr k hk).pre hp0
    obtain⟨w,H5,e1,ha,hp5,hl5⟩:=Acc.appR (H0:=H3) (H:=H3++[.cells [] 3 none false]) (by_:=8) (by simp) (Own.new (Nat.le_refl _) (cs:=[]) rfl (Y:=[])).acc ((hrow.pre (Pre.new H3 _)).x hne) (by simp [one]) (by rw [hcl];simp;omega) (by rw [hcl];simp;omega)
    simp only [List.length_nil,List.nil_append] at e1 ha
    have hp5':=hp5 (Pre.new _ _)
    have hp05:=hp.trans hp5'
    have hlo:Lw.Lo (H++[fbx p e b c]).length w:=fun a l c h=>Nat.le_trans hp.len (Lw.acc_lo ha _ _ _ h)
    obtain⟨out',H7,e2,ho',hp7,hl7⟩:=(ho.pre hp5').app1 (by_:=24) hp05.len ha.row hlo (qhj _) (by simp;omega) (by simp;omega) (e2:=31)
    simp (disch:=(first|omega|(simp only [qbf]<;>omega)|(simp only [qbd];done)|rfl)) only [zA,zB,zC,zD,zF,zG,zH,Nat.reduceEqDiff,Nat.reduceLT,Nat.reduceLeDiff,↓reduceIte,vl,vi,vd,vd2,hk',e1,ha.row.fill,e2]
    refine hJ _ _ _ ⟨rfl,hp7 hp05,?_,?_⟩
    · obtain⟨ws,h1,h2,_⟩:=ho'
      have hwl:=h2.1
      simp at hwl
      rcases h1.own (by intro h;rw [h] at hwl;simp at hwl) with ⟨bb,_,rfl,_⟩
      exact⟨bb,by rw [hwl];simp;omega⟩
    · have e:evr cd (rows.take (k+1))=evr cd (rows.take k)++[evs cd (rows.getD k [])]:=by
        show List.map _ _=List.map _ _++_
        rw [List.take_succ_eq_append_getElem hk,List.map_append,qcj hk];rfl
      rw [e];exact ho'
  · rintro out i H3 ⟨rfl,hp,⟨sb,rfl⟩,ho⟩ J
    obtain⟨vl,_,_,_⟩:=(hvs.pre ((Pre.new H _).trans hp)).allV
    rw [List.take_of_length_le (Nat.le_refl _)] at ho
    obtain⟨ws,ha,hr,_,hlow⟩:=ho
    have hs0:∃ op,Spn cd (H++[fbx p e b c]).length sb ws op H3 rows:=by
      rcases ha with ⟨_,h⟩|⟨bb,hb1,h,op,_,h2⟩
      · cases h
      · simp only [Value.slice.injEq,Option.some.injEq,Addr.mk.injEq] at h
        obtain⟨⟨rfl,_⟩,_⟩:=h
        exact⟨op,h2,hr,hlow,hb1⟩
    obtain⟨op,hs⟩:=hs0
    simp (disch:=omega) only [zA,zB,zC,zD,zF,zG,zH,↓reduceIte,vl,hvl]
    have hsb:=qbr hs.blk
    have hbx:H3[H.length]? = some (fbx p e b c):=hp.get (by simp)
    refine loopV2.ind (fun m r c' H'=>∃ col ws M P op,c'=nv col∧r=nv P.length∧col+m=n∧Pre (H++[fbx p e b c]) H'∧Spn cd (H++[fbx p e b c]).length sb ws op H' M∧RedTo n col M P∧M.length=rows.length∧(∀ u,LSpan M u↔LSpan rows u)) n
      ⟨0,ws,rows,[],op,rfl,rfl,by omega,hp,hs,RedTo.start hl,rfl,fun _=>Iff.rfl⟩ ?_
    clear hs hsb hbx hr hlow ha hp
    rintro m r c' H4 ⟨col,ws,M,P,op,rfl,rfl,hm,hp,hs,hr,hMl,hsp⟩ J hJ
    have hbx:H4[H.length]? = some (fbx p e b c):=hp.get (by simp)
    have hp0:=(Pre.new H _).trans hp
    have hb4:=hp0.get hb
    have hPl:=hr.len
    have hspine:=hs.spine (l:=rows.length) (m:=rows.length) hMl.symm (Nat.le_refl _)
    have hwl:=hs.len
    obtain⟨sl,si,sd,_⟩:=hspine.allV
    by_cases hcn:col<n
    · by_cases hPr:P.length<M.length
      · have hPw:P.length<ws.length:=by omega
        simp (disch:=omega) only [zA,zB,zC,zD,zF,zG,zH,↓reduceIte,hcn,sl,hPw]
        refine joinV1.via (fun r' H'=>∃ ws' M' P' op',r'=nv P'.length∧Pre (H++[fbx p e b c]) H'∧Spn cd (H++[fbx p e b c]).length sb ws' op' H' M'∧RedTo n (col+1) M' P'∧M'.length=rows.length∧(∀ u,LSpan M' u↔LSpan rows u)) ?_ ?_
        · intro J2 hJ2
          refine loopV1.ind (fun m i H'=>∃ k,i=nv k∧H'=H4∧P.length≤k∧k+m=M.length∧∀ j,P.length≤j→j<k→ent M j col=Fl.zero) (M.length-P.length) ⟨P.length,rfl,rfl,Nat.le_refl _,by omega,fun k h1 h2=>by omega⟩ ?_
          rintro m2 i8 H4 ⟨i,rfl,rfl,hi1,hi2,hi3⟩ J3 hJ3
          by_cases him:i<M.length
          · have hiw:i<ws.length:=by omega
            have hcw:col<(M.getD i []).length:=by rw [qcd hr.width him];omega
            obtain⟨rl,ri,rd,_⟩:=(hs.row him).all Fl.zero
            by_cases he:ent M i col=Fl.zero
            · have he0:cd ((M.getD i []).getD col Fl.zero)=0:=(F.eq0 _).2 he
              simp (disch:=omega) only [zA,zB,zC,zD,zF,zG,zH,↓reduceIte,sl,si,sd,hiw,ri,rd,hcw,he0]
              refine hJ3 _ _ ⟨m2-1,by omega,i+1,rfl,rfl,by omega,by omega,fun k h1 h2=>?_⟩
              by_cases hki:k=i
              · rw [hki];exact he
              · exact hi3 k h1 (by omega)
            · have he0:¬cd ((M.getD i []).getD col Fl.zero)=0:=fun hh=>he ((F.eq0 _).1 hh)
              have hne2:¬i=ws.length:=by omega
              have hst:=hr.step him hi1 he
              have hspn:=qqd (n:=n) hr.width hPr him he
              have hs2:=hs.set him (hs.row hPr) (hs.at_ hPr)
              have st1:=qjm (v:=ws.getD P.length undef) hs.blk hiw (hs.row hPr).cells (hs.row hPr).one
              have ptr1:qf4 (.slice (some ⟨sb,0,none⟩) rows.length rows.length) i=.pointer (some ⟨sb,i,none⟩):=by simp [qf4]
              have ptr2:qf4 (.slice (some ⟨sb,0,none⟩) rows.length rows.length) P.length=.pointer (some ⟨sb,P.length,none⟩):=by simp [qf4]
              have hsbn:=hs.sn
              simp (disch:=omega) only [zA,zB,zC,zD,zF,zG,zH,↓reduceIte,sl,si,sd,hiw,hPw,ri,rd,hcw,he0,hne2]
              simp (disch:=omega) only [zA,zB,zC,zD,zF,zG,zH,↓reduceIte,ptr1,st1]
              have hp5:=hp.set (b:=sb) hs.sn (.cells (ws.set i (ws.getD P.length undef)) 31 op false)
              have hx5:=hs.keep (y:=.cells (ws.set i (ws.getD P.length undef)) 31 op false) (hs.row him)
              obtain⟨H5,hH5⟩:∃ H5,H5=H4.set sb (.cells (ws.set i (ws.getD P.length undef)) 31 op false):=⟨_,rfl⟩
              rw [←hH5] at hs2 hp5 hx5 ⊢
              have hbx5:H5[H.length]? = some (fbx p e b c):=hp5.get (by simp)
              have hb5:=((Pre.new H _).trans hp5).get hb
              obtain⟨_,ri5,rd5,_⟩:=hx5.all Fl.zero
              simp (disch:=omega) only [zA,zB,zC,zD,zF,zG,zH,↓reduceIte,hbx5,ri5,rd5,hcw]
              refine FZ.use (F.rinv _ _ hb5 he) ?_
              simp (disch:=omega) only [zA,zB,zC,zD,zF,zG,zH,↓reduceIte,hbx5]
              refine FZ.mono (rtimes_c F hb5 hx5 (by rw [qcd hr.width him];omega)) ?_
              rintro w6 H6 ⟨hp6,ha6⟩
              have hs6:=hs2.pre hp6
              have hp06:=hp5.trans hp6
              have hrw:P.length<(ws.set i (ws.getD P.length undef)).length:=by rw [List.length_set];exact hPw
              have st2:=qjm hs6.blk hrw ha6.row.cells ha6.row.one
              have hlo6:Lw.Lo (H++[fbx p e b c]).length w6:=fun a l c h=>Nat.le_trans hp5.len (Lw.acc_lo ha6 _ _ _ h)
              have hs7:=hs6.set (k:=P.length) (by rw [List.length_set];exact hPr) ha6.row hlo6
              have hp7:=hp06.set (b:=sb) hs.sn (.cells ((ws.set i (ws.getD P.length undef)).set P.length w6) 31 op false)
              have hfront:(M.set i (M.getD P.length [])).set P.length ((M.getD i []).map (Fl.mul (Fl.inv (ent M i col))))=qc9 P.length i col M:=by unfold qc9;rw [List.set_set]
              change Spn cd _ sb _ op _ ((M.set i (M.getD P.length [])).set P.length ((M.getD i []).map (Fl.mul (Fl.inv (ent M i col))))) at hs7
              rw [hfront] at hs7
              simp (disch:=omega) only [zA,zB,zC,zD,zF,zG,zH,↓reduceIte,si,hPw,ptr2,st2]
              obtain⟨H7,hH7⟩:∃ H7,H7=H6.set sb (.cells ((ws.set i (ws.getD P.length undef)).set P.length w6) 31 op false):=⟨_,rfl⟩
              rw [←hH7] at hs7 hp7 ⊢
              have hNl:(qc9 P.length i col M).length=M.length:=qdr
              have hNw:∀ k,k<M.length→((qc9 P.length i col M).getD k []).length=n:=fun k hk=>qhg hr.width hPr him hk
              have hEl:=qcc P.length col (qc9 P.length i col M)
              have hEg:=fun k hk=>qff (r:=P.length) (col:=col) (M:=qc9 P.length i col M) (k:=k) hk
              obtain⟨N,hN⟩:∃ N,N=qc9 P.length i col M:=⟨_,rfl⟩
              rw [←hN] at hs7 hNl hNw hEl hEg hst hspn
              obtain⟨E,hE⟩:∃ E,E=qhh P.length col N:=⟨_,rfl⟩
              rw [←hE] at hEl hEg hst hspn
              have hNr:∀ k,k<N.length→k≠P.length→E.getD k []=lsub (N.getD k []) (ent N k col) (N.getD P.length []):=fun k hk hkr=>by rw [hEg k hk,if_neg hkr]
              have hNrr:E.getD P.length []=N.getD P.length []:=by rw [hEg _ (by omega),if_pos rfl]
              refine loopV1.nat M.length (fun k j H'=>j=nv k∧Pre (H++[fbx p e b c]) H'∧∃ us,Spn cd (H++[fbx p e b c]).length sb us op H' (E.take k++N.drop k)) ⟨rfl,hp7,_,by simpa using hs7⟩ ?_ ?_
              · rintro k j H8 hkm ⟨rfl,hp8,us,hs8⟩ J4 hJ4
                have hCl:(E.take k++N.drop k).length=M.length:=by simp;omega
                have hCk:=qk8 [] N E k (by omega)
                have hpre:=qk7 [] N E k (by omega) (by omega)
                have hul:=hs8.len
                have hku:k<us.length:=by omega
                have hPu:P.length<us.length:=by omega
                have hCr:(E.take k++N.drop k).getD P.length []=N.getD P.length []:=by
                  simp only [List.getD_eq_getElem?_getD]
                  by_cases hlt:P.length<k
                  · rw [List.getElem?_append_left (by simp;omega),List.getElem?_take_of_lt hlt]
                    simpa [List.getD_eq_getElem?_getD] using hNrr
                  · rw [List.getElem?_append_right (by simp;omega)]
                    simp only [List.length_take,List.getElem?_drop]
                    congr 2
                    omega
                obtain⟨tl,ti,td,_⟩:=(hs8.spine (l:=rows.length) (m:=rows.length) (by omega) (Nat.le_refl _)).allV
                by_cases hkr:k=P.length
                · subst hkr
                  simp (disch:=omega) only [zA,zB,zC,zD,zF,zG,zH,↓reduceIte,tl,hPu]
                  refine hJ4 _ _ ⟨rfl,hp8,us,?_⟩
                  rw [←hpre,hNrr,←hCr]
                  have:∀ (L:List (List α)) (k:Nat),k<L.length→L.set k (L.getD k [])=L:=fun L k hL=>by
                    refine List.ext_getElem (by simp) fun l h1 h2=>?_
                    by_cases hlk:k=l
                    · subst hlk;simp [List.getD_eq_getElem?_getD,List.getElem?_eq_getElem h2]
                    · simp [List.getElem_set_ne hlk]
                  rw [this _ _ (by rw [hCl];exact hkm)]
                  exact hs8
                · have hbx8:H8[H.length]? = some (fbx p e b c):=hp8.get (by simp)
                  have hb8:=((Pre.new H _).trans hp8).get hb
                  have hk8:k<(E.take k++N.drop k).length:=by omega
                  have hP8:P.length<(E.take k++N.drop k).length:=by omega
                  have hrowk:=hs8.row hk8
                  rw [hCk] at hrowk
                  have hrowr:=hs8.row hP8
                  rw [hCr] at hrowr
                  have hkw:=hNw k (by omega)
                  have hck:col<(N.getD k []).length:=by omega
                  obtain⟨_,ri8,rd8,_⟩:=hrowk.all Fl.zero
                  simp (disch:=omega) only [zA,zB,zC,zD,zF,zG,zH,↓reduceIte,tl,hku,hkr,hbx8]
                  refine joinV0.intro fun J5 hJ5=>?_
                  have b1:=hs8.ldB hku
                  have b2:=hs8.ldB hPu
                  simp (disch:=omega) only [zA,zB,zC,zD,zF,zG,zH,↓reduceIte,hbx8,b1,b2,hPu,ri8,rd8,hck]
                  refine FZ.use (F.rneg _ _ hb8) ?_
                  simp (disch:=omega) only [zA,zB,zC,zD,zF,zG,zH,↓reduceIte,hbx8,b1,b2]
                  refine FZ.mono (rtimes_c F hb8 hrowr (by rw [hNw _ hPr];omega)) ?_
                  rintro w9 H9 ⟨hp9,ha9⟩
                  have hbx9:=hp9.get hbx8
                  have hb9:=hp9.get hb8
                  have hs9:=hs8.pre hp9
                  obtain⟨tl9,ti9,td9,_⟩:=(hs9.spine (l:=rows.length) (m:=rows.length) (by omega) (Nat.le_refl _)).allV
                  have b3:=hs9.ldB hku
                  simp (disch:=omega) only [zA,zB,zC,zD,zF,zG,zH,Nat.reduceEqDiff,Nat.reduceLT,Nat.reduceLeDiff,↓reduceIte,hbx9,b3]
                  refine FZ.mono (rplus_c F hb9 (hrowk.pre hp9) ha9.row (by rw [List.length_map,hkw,hNw _ hPr]) (by omega)) ?_
                  rintro w10 H10 ⟨hp10,ha10⟩
                  have hp910:=hp9.trans hp10
                  have hs10:=hs8.pre hp910
                  rw [lsub_plus] at ha10
                  have hlo10:Lw.Lo (H++[fbx p e b c]).length w10:=fun a l c h=>Nat.le_trans (hp8.trans hp9).len (Lw.acc_lo ha10 _ _ _ h)
                  have st3:=qjm hs10.blk hku ha10.row.cells ha10.row.one
                  have hs11:=hs10.set hk8 ha10.row hlo10
                  have ptr3:qf4 (.slice (some ⟨sb,0,none⟩) rows.length rows.length) k=.pointer (some ⟨sb,k,none⟩):=by simp [qf4]
                  simp (disch:=omega) only [zA,zB,zC,zD,zF,zG,zH,↓reduceIte,ti,hku,ptr3,st3]
                  refine hJ5 _ ?_
                  simp (disch:=omega) only [zA,zB,zC,zD,zF,zG,zH,↓reduceIte]
                  refine hJ4 _ _ ⟨rfl,(hp8.trans hp910).set hs.sn _,us.set k w10,?_⟩
                  have hEk:=hNr k (by omega) hkr
                  change E.getD k []=lsub (N.getD k []) ((N.getD k []).getD col Fl.zero) (N.getD P.length []) at hEk
                  rw [←hEk,hpre] at hs11
                  exact hs11
              · rintro j H8 ⟨rfl,hp8,us,hs8⟩ J4
                rw [List.take_of_length_le (by omega),List.drop_of_length_le (by omega),List.append_nil] at hs8
                have hul:=hs8.len
                obtain⟨tl,_,_,_⟩:=(hs8.spine (l:=rows.length) (m:=rows.length) (by omega) (Nat.le_refl _)).allV
                have hnu:¬M.length<us.length:=by omega
                simp (disch:=omega) only [zA,zB,zC,zD,zF,zG,zH,↓reduceIte,tl,hnu]
                exact hJ2 _ _ ⟨us,E,P++[col],op,by simp,hp8,hs8,hst,by omega,fun u=>(hspn u).trans (hsp u)⟩
          · have hnw:¬i<ws.length:=by omega
            have hme:i=ws.length:=by omega
            simp (disch:=omega) only [zA,zB,zC,zD,zF,zG,zH,↓reduceIte,sl,hnw,hme]
            exact hJ2 _ _ ⟨ws,M,P,op,rfl,hp,hs,hr.skip fun k h1 h2=>hi3 k h1 (by omega),hMl,hsp⟩
        · rintro r' H5 ⟨ws',M',P',op',rfl,h1,h2,h3,h4,h5⟩
          simp (disch:=omega) only [zA,zB,zC,zD,zF,zG,zH,↓reduceIte]
          exact hJ _ _ _ ⟨m-1,by omega,col+1,ws',M',P',op',rfl,rfl,by omega,h1,h2,h3,h4,h5⟩
      · have hPw:¬P.length<ws.length:=by omega
        simp (disch:=omega) only [zA,zB,zC,zD,zF,zG,zH,↓reduceIte,hcn,sl,hPw]
        have hfull:=hr.full (by omega) (.inl (by omega))
        obtain⟨d1,d2⟩:=hfull.done
        have hres:M.take P.length=qb4 rows:=by
          obtain⟨h1,h2,_⟩:=qcb hl
          exact d1.unique h1 fun u=>(d2 u).trans ((hsp u).trans (h2 u).symm)
        have hPle:P.length≤rows.length:=by omega
        simp (disch:=omega) only [zA,zB,zC,zD,zF,zG,zH,↓reduceIte,qjx,hPle]
        refine⟨hp0,ws.take P.length,RowX.of_take hs.blk (by omega) hPle,?_,?_,?_⟩
        · rw [←hres]
          refine⟨by simp;omega,fun k hk=>?_⟩
          have hk':k<P.length:=by simp at hk;omega
          have e1:(ws.take P.length).getD k undef=ws.getD k undef:=by simp [List.getD_eq_getElem?_getD,List.getElem?_take_of_lt hk']
          have e2:(evr cd (M.take P.length)).getD k []=evs cd (M.getD k []):=by
            rw [show ([]:List Value)=evs cd [] from rfl,qdg]
            simp [List.getD_eq_getElem?_getD,List.getElem?_take_of_lt hk']
          rw [e1,e2]
          exact hs.row (by omega)
        · intro a l c h;cases h;have:=hs.sn;simp at this ⊢;omega
        · intro x hx a l c h;have:=hs.low x (List.mem_of_mem_take hx) a l c h;simp at this;omega
    · simp (disch:=omega) only [zA,zB,zC,zD,zF,zG,zH,↓reduceIte,hcn]
      have hfull:=hr.full (by omega) (.inr (by omega))
      obtain⟨d1,d2⟩:=hfull.done
      have hres:M.take P.length=qb4 rows:=by
        obtain⟨h1,h2,_⟩:=qcb hl
        exact d1.unique h1 fun u=>(d2 u).trans ((hsp u).trans (h2 u).symm)
      have hPle:P.length≤rows.length:=by omega
      simp (disch:=omega) only [zA,zB,zC,zD,zF,zG,zH,↓reduceIte,qjx,hPle]
      refine⟨hp0,ws.take P.length,RowX.of_take hs.blk (by omega) hPle,?_,?_,?_⟩
      · rw [←hres]
        refine⟨by simp;omega,fun k hk=>?_⟩
        have hk':k<P.length:=by simp at hk;omega
        have e1:(ws.take P.length).getD k undef=ws.getD k undef:=by simp [List.getD_eq_getElem?_getD,List.getElem?_take_of_lt hk']
        have e2:(evr cd (M.take P.length)).getD k []=evs cd (M.getD k []):=by
          rw [show ([]:List Value)=evs cd [] from rfl,qdg]
          simp [List.getD_eq_getElem?_getD,List.getElem?_take_of_lt hk']
        rw [e1,e2]
        exact hs.row (by omega)
      · intro a l c h;cases h;have:=hs.sn;simp at this ⊢;omega
      · intro x hx a l c h;have:=hs.low x (List.mem_of_mem_take hx) a l c h;simp at this;omega
end
end Go.Sim

namespace Go.Sim
open Fl
section
variable {α:Type} [Fl α] [DecidableEq α]
theorem lred_self {n:Nat} {G:List (List α)} (h:LRed n G):qb4 G=G:=by
  have hl:∀ x∈G,x.length=n:=fun x hx=>h.piv.1 x hx
  obtain⟨a1,a2,_⟩:=qcb hl
  exact LRed.unique a1 h a2
def pick (n:Nat) (p:Nat→Nat) (x:List α):List α:=(List.range n).map fun j=>x.getD (p j) Fl.zero
end
end Go.Sim

namespace Go.Sim
open Fl
section
variable {α:Type} [Fl α] [DecidableEq α]
theorem LRed.len {n:Nat} {G:List (List α)} (h:LRed n G):∀ x∈G,x.length=n:=fun x hx=>h.piv.1 x hx
structure Cd (n:Nat) (G:List (List α)) (S:Vc α→Prop):Prop where
  red:LRed n G
  span:∀ u,LSpan G u↔S u
theorem Cd.self {n:Nat} {G:List (List α)} (h:LRed n G):Cd n G (LSpan G):=⟨h,fun _=>Iff.rfl⟩
end
end Go.Sim

namespace Go.Sim
open Go Go.Proofs
theorem Lw.RowLo.mono {m n:Nat} {H:AH} {v:Value} {css:List (List Value)} (h:Lw.RowLo n H v css) (hm:m≤n):Lw.RowLo m H v css:=by
  obtain⟨vs,h1,h2,h3,h4⟩:=h
  exact⟨vs,h1,h2,fun a l c e=>Nat.le_trans hm (h3 a l c e),fun x hx a l c e=>Nat.le_trans hm (h4 x hx a l c e)⟩
theorem Lw.RowLo.one {n:Nat} {H:AH} {v:Value} {css:List (List Value)} (h:Lw.RowLo n H v css):one v=true:=by obtain⟨_,h,_⟩:=h;exact h.1.one
theorem Lw.RowLo.fill {n:Nat} {H:AH} {v:Value} {css:List (List Value)} (h:Lw.RowLo n H v css):∀ (c:List Value) (off:Nat) (pl:List (Nat×Nat)) (vs:List Value),off<c.length→qbv c ((off,1) :: pl) (v :: vs)=qbv (c.set off v) pl vs:=by obtain⟨_,h,_⟩:=h;exact h.1.fill
theorem RowR.one' {H:AH} {v:Value} {css:List (List Value)} (h:RowR H v css):one v=true:=by obtain⟨_,h,_⟩:=h;exact h.1.one
end Go.Sim

namespace Go.Sim
open Go Go.Proofs
section
variable {α:Type} [Fl α] [DecidableEq α] {cd:α→Nat} {p e b c q:Nat} {blk:AB} {H:AH}
theorem evr_get {G:List (List α)} (k:Nat):(evr cd G).getD k []=evs cd (G.getD k []):=by
  rw [show ([]:List Value)=evs cd [] from rfl,qdg]
theorem xp_fn1 {g:Nat} {x:Value}:qbc (.fn g 0 1) [x]=some (.func (.func g) #[] #[x]):=rfl
theorem xp_fn2 {g:Nat} {x y:Value}:qbc (.fn g 0 2) [x,y]=some (.func (.func g) #[] #[x,y]):=rfl
end
end Go.Sim

namespace Go.Sim
open Go Go.Proofs
section
variable {α:Type} [Fl α] [DecidableEq α] {cd:α→Nat} {p e b c q:Nat} {blk:AB} {H:AH}
theorem F2.add (F:FOK α cd p e b c 2 blk) (x y:α):cd (Fl.add x y)=cd x ^^^ cd y:=by
  have h01:∀ z:α,z=Fl.zero∨z=Fl.one:=fun z=>by
    have:=F.lt z
    have h:cd z=0∨cd z=1:=by omega
    rcases h with h|h
    · exact .inl ((F.eq0 z).1 h)
    · exact .inr (F.inj _ _ (by rw [h,F.one]))
  have h11:Fl.add (Fl.one:α) Fl.one=Fl.zero:=by
    rcases h01 (Fl.add Fl.one Fl.one) with h|h
    · exact h
    · exfalso
      have h2:Fl.add (Fl.one:α) Fl.one=Fl.add Fl.one Fl.zero:=by rw [h,Fl.add_zero]
      exact Fl.one_ne (Fl.add_left_cancel h2)
  rcases h01 x with rfl|rfl<;>rcases h01 y with rfl|rfl
  · rw [Fl.add_zero,F.zero];rfl
  · rw [Fl.zero_add,F.zero,F.one];rfl
  · rw [Fl.add_zero,F.zero,F.one];rfl
  · rw [h11,F.zero,F.one];rfl
end
end Go.Sim

namespace Go.Sim
open Go Go.Proofs
section
variable {α:Type} [Fl α] [DecidableEq α] {cd:α→Nat} {p e b c q:Nat} {blk:AB} {H:AH}
def tab (n:Nat) (f:Nat→Value):List Value:=(List.range n).map f
theorem qk3 (n:Nat) (f:Nat→Value):(tab n f).length=n:=by simp [tab]
theorem tab_set {n:Nat} {f g:Nat→Value} {k:Nat} {v:Value} (hk:k<n) (hv:g k=v) (h:∀ j,j<n→j≠k→g j=f j):(tab n f).set k v=tab n g:=by
  refine List.ext_getElem (by simp [tab]) fun i h1 h2=>?_
  have hi:i<n:=by simpa [tab] using h2
  by_cases hik:i=k
  · subst hik;simp [tab,hv]
  · rw [List.getElem_set_ne (Ne.symm hik)];simp [tab,h i hi hik]
theorem qhz {n:Nat} {f g:Nat→Value} (h:∀ j,j<n→f j=g j):tab n f=tab n g:=List.map_congr_left fun j hj=>h j (List.mem_range.1 hj)
theorem tab_ld2 {n k:Nat} {f:Nat→Value} {et:TypeId} {op:Option Nat} {ro:Bool} (hk:k<n):qdm none (some (.cells (tab n f) et op ro)) k=some (f k):=by
  simp [qdm,qdc,tab,hk]
theorem tab_st {n bl k:Nat} {f g:Nat→Value} {et:TypeId} {op:Option Nat} {v:Value} (h:H[bl]? = some (.cells (tab n f) et op false)) (hk:k<n) (hc:qbn v=[v]) (h1:one v=true) (hv:g k=v) (hg:∀ j,j<n→j≠k→g j=f j) :
    stB 1 H (some (.cells (tab n f) et op false)) bl k v=some (undef,H.set bl (.cells (tab n g) et op false)):=by
  rw [qfm hc h1 (by rw [qk3];exact hk),tab_set hk hv hg]
theorem qps (n:Nat):(List.replicate n 0).map nv=tab n fun _=>nv 0:=by
  refine List.ext_getElem (by simp [tab]) fun i h1 h2=>by simp [tab]
end
end Go.Sim

namespace Go.Sim
open Go Go.Proofs
abbrev bv (k:Nat):Value:=.int .u8 (k:Int)
section
variable {α:Type} [Fl α] [DecidableEq α] {cd:α→Nat} {p e b c q:Nat} {blk:AB} {H:AH}
theorem bv_ld {v:Value} {us:List Nat} (hv:Row H v (us.map bv)) {k:Nat} (hk:k<us.length):qbh none H [qf4 v k]=some (bv (us.getD k 0)):=by
  have:=hv.ldM 0 hk;exact this
theorem getD_lt {us:List Nat} {m k:Nat} (h:∀ u∈us,u<m) (hk:k<us.length):us.getD k 0<m:=h _ (getD_mem hk)
end
end Go.Sim

namespace Go.Sim
open Go Go.Proofs
section
variable {α:Type} [Fl α] [DecidableEq α] {cd:α→Nat} {p e b c q:Nat} {blk:AB} {H:AH}
theorem zero_c {n:Nat} (hn:n≤1000):FN Tryz.prog 60 [nv n] H (fun r H'=>r=.slice (some ⟨H.length,0,none⟩) n n∧H'=H++[.cells ((List.replicate n 0).map nv) 3 none false]):=by
  refine g60_of ?_
  unfold g60
  have hmk:8*n≤281474976710656:=by omega
  simp (disch:=omega) only [zA,zB,zC,zD,zF,zG,zH,↓reduceIte,hmk,qdw]
theorem over_c (Q:FQ α cd p e q blk):FN Tryz.prog 62 [nv q] H (fun r H'=>Pre H H'∧∃ b,r=fldv p e b e e∧H'[b]? = some blk):=by
  refine g62_of ?_
  unfold g62
  simp (disch:=omega) only [zA,zB,zC,zD,zF,zG,zH,↓reduceIte]
  refine FZ.use (Q.rmake _) ?_
  have s3:=qc7 (H:=H++[.cells [nv 0,nv 0,.slice none 0 0] 76 none false,blk,.cells [nv 0,nv 0,.slice none 0 0] 76 none false]) (bl:=H.length+2) (x:=nv p) (y:=nv e) (z:=.slice (some ⟨H.length+1,0,none⟩) e e) (c0:=nv 0) (c1:=nv 0) (c2:=.slice none 0 0) (e:=76) (op:=none) rfl rfl rfl
  have e3:(H++[.cells [nv 0,nv 0,.slice none 0 0] 76 none false,blk,.cells [nv 0,nv 0,.slice none 0 0] 76 none false]).set (H.length+2) (.cells [nv p,nv e,.slice (some ⟨H.length+1,0,none⟩) e e] 76 none false)=H++[.cells [nv 0,nv 0,.slice none 0 0] 76 none false,blk,fbx p e (H.length+1) e]:=by
    rw [List.set_append_right _ _ (by omega)];simp
  rw [e3] at s3
  have s4:=qc7 (H:=H++[.cells [nv 0,nv 0,.slice none 0 0] 76 none false,blk,fbx p e (H.length+1) e]) (bl:=H.length) (x:=nv p) (y:=nv e) (z:=.slice (some ⟨H.length+1,0,none⟩) e e) (c0:=nv 0) (c1:=nv 0) (c2:=.slice none 0 0) (e:=76) (op:=none) rfl rfl rfl
  have e4:(H++[.cells [nv 0,nv 0,.slice none 0 0] 76 none false,blk,fbx p e (H.length+1) e]).set H.length (.cells [nv p,nv e,.slice (some ⟨H.length+1,0,none⟩) e e] 76 none false)=H++[fbx p e (H.length+1) e,blk,fbx p e (H.length+1) e]:=by
    rw [List.set_append_right _ _ (by omega)];simp
  rw [e4] at s4
  simp (disch:=omega) only [zA,zB,zC,zD,zF,zG,zH,↓reduceIte,s3,s4]
  exact⟨Pre.new _ _,H.length+1,rfl,by simp⟩
theorem rem8 {u m:Nat} (hm:m≠0):xbin .rem 0 (bv u) (.int .u8 (m:Int))=some (bv (u % m)):=qj1 hm
theorem ix6 {b j:Nat} (hj:j<6):qbc (.ixS 1) [.slice (some ⟨b,0,none⟩) 6 6,bv j]=some (.pointer (some ⟨b,j,none⟩)):=by
  have:j=0∨j=1∨j=2∨j=3∨j=4∨j=5:=by omega
  rcases this with rfl|rfl|rfl|rfl|rfl|rfl<;>rfl
def qq1 (j:Nat):Nat:=[8,5,4,3,2,2].getD j 0
theorem ld6 {j:Nat} (hj:j<6):qdm none (some (.cells [nv 2,nv 3,nv 4,nv 5,nv 7,nv 8] 3 none false)) j=some (nv (Pf.ordM j)):=by
  have:j=0∨j=1∨j=2∨j=3∨j=4∨j=5:=by omega
  rcases this with rfl|rfl|rfl|rfl|rfl|rfl<;>rfl
theorem ld6' {j:Nat} (hj:j<6):qdm none (some (.cells [nv 8,nv 5,nv 4,nv 3,nv 2,nv 2] 3 none false)) j=some (nv (qq1 j)):=by
  have:j=0∨j=1∨j=2∨j=3∨j=4∨j=5:=by omega
  rcases this with rfl|rfl|rfl|rfl|rfl|rfl<;>rfl
theorem most_le {j:Nat} (hj:j<6):qq1 j≤8∧Pf.ordM j≤8∧2≤Pf.ordM j:=by
  have:j=0∨j=1∨j=2∨j=3∨j=4∨j=5:=by omega
  rcases this with rfl|rfl|rfl|rfl|rfl|rfl<;>decide
abbrev rawv (k n m:Nat) (x:Value):Value:=.agg [bv k,bv n,bv m,x].toArray
end
end Go.Sim

namespace Go.Sim
open Go Go.Proofs
def RowSt (S:Nat→Prop) (H:AH) (v:Value) (css:List (List Value)):Prop:=∀ H':AH,(∀ b,b<H.length→¬S b→H'[b]? = H[b]?)→RowR H' v css
section
variable {S:Nat→Prop} {H H2:AH} {v:Value} {css:List (List Value)}
theorem RowSt.now (h:RowSt S H v css):RowR H v css:=h H fun _ _ _=>rfl
end
end Go.Sim

set_option maxRecDepth 100000
namespace Go.Sim
open Go Go.Proofs
local instance coZTlA:Coe AH Value:=⟨fun H=>.pointer (some ⟨H.length,0,none⟩)⟩
def g53 (c0:Value) (H:AH) (R:Value→AH→Prop):Prop:=
 @letH (H++[.cells (qbn c0) 29 none false]) ⟨fun H1 =>
 @qbb (qbc (.fld 2) [H]) ⟨fun v4 =>
 @qbb (qbh none H1 [v4]) ⟨fun v5 =>
 @qbb (qbc .lenS [v5]) ⟨fun v6 =>
 @loopV2 (nv 1) (nv 0) H1 ⟨fun n3 v7 H2 K1 =>
 @qbb (xbin .lss 0 v7 v6) ⟨fun v8 =>
 @qbq v8 ⟨fun q=>if q=true then @qbb (qbc (.fld 0) [H]) ⟨fun v10 =>
 @qbb (qbh none H2 [v10]) ⟨fun v11 =>
 @qbb (xbin .mul 0 n3 v11) ⟨fun v12 =>
 @qbb (xbin .gtr 0 v12 (nv 4096)) ⟨fun v14 =>
 @qbg (asNB v14) (fun J2=>J2 v12 H2) H2 ⟨fun v16 H3 =>
 @qbg (asNB v14) (fun J3=>@qbb (xbin .lss 0 v16 (nv 1)) ⟨fun v17 =>
 J3 v17 H3⟩) H3 ⟨fun v17a H4 =>
 @qb1 v14 (.bool true) v17a ⟨fun v18 =>
 @qbq v18 ⟨fun q=>if q=true then R (nv 4097) H4 else
 @qbb (xbin .add 0 v7 (nv 1)) ⟨fun v19 =>
 K1 v12 v19 H4⟩⟩⟩⟩⟩⟩⟩⟩⟩ else
 R n3 H2⟩⟩⟩⟩⟩⟩⟩
theorem g53_of {c0:Value} {H:AH} {R:Value→AH→Prop} (h:g53 c0 H R):FN Tryz.prog 53 [c0] H R:=
  FN.of_XM (ms:=[(4,[3,7])]) qbs (cast (by kernel_rfl) h)
def g55 (q0 n1 words2:Value) (H:AH) (R:Value→AH→Prop):Prop:=
 @letH (H++[.cells [.slice none 0 0,nv 0] 63 none false]) ⟨fun H1 =>
 @cG 104 [q0,n1,words2] H1 ⟨fun v13 H2 =>
 @qbb (qbc (.ext 0) [v13]) ⟨fun v14 =>
 @qbb (qbc (.ext 1) [v13]) ⟨fun v15 =>
 @qb5 (qbv [.slice none 0 0,nv 0] [(0,1),(1,1)] [v14,v15]) ⟨fun v18 =>
 @qbt (xact (.st 2) H2 [H,(.agg v18.toArray)]) ⟨fun _v H3 =>
 @qbb (qbh (some 2) H3 [H]) ⟨fun r0=>R r0 H3⟩⟩⟩⟩⟩⟩⟩
theorem g55_of {q0 n1 words2:Value} {H:AH} {R:Value→AH→Prop} (h:g55 q0 n1 words2 H R):FN Tryz.prog 55 [q0,n1,words2] H R:=
  FN.of_XM (ms:=[]) qbs (cast (by kernel_rfl) h)
def g56 (q0 n1 w2:Value) (H:AH) (R:Value→AH→Prop):Prop:=
 @letH (H++[.cells [.slice none 0 0,nv 0] 66 none false]) ⟨fun H1 =>
 @cG 105 [q0,n1,w2] H1 ⟨fun v13 H2 =>
 @qbb (qbc (.ext 0) [v13]) ⟨fun v14 =>
 @qbb (qbc (.ext 1) [v13]) ⟨fun v15 =>
 @qb5 (qbv [.slice none 0 0,nv 0] [(0,1),(1,1)] [v14,v15]) ⟨fun v18 =>
 @qbt (xact (.st 2) H2 [H,(.agg v18.toArray)]) ⟨fun _v H3 =>
 @qbb (qbh (some 2) H3 [H]) ⟨fun r0=>R r0 H3⟩⟩⟩⟩⟩⟩⟩
theorem g56_of {q0 n1 w2:Value} {H:AH} {R:Value→AH→Prop} (h:g56 q0 n1 w2 H R):FN Tryz.prog 56 [q0,n1,w2] H R:=
  FN.of_XM (ms:=[]) qbs (cast (by kernel_rfl) h)
def g57 (q0 n1 d2:Value) (H:AH) (R:Value→AH→Prop):Prop:=
 @letH (H++[.cells [.slice none 0 0,nv 0] 63 none false]) ⟨fun H1 =>
 @cG 106 [q0,n1,d2] H1 ⟨fun v13 H2 =>
 @qbb (qbc (.ext 0) [v13]) ⟨fun v14 =>
 @qbb (qbc (.ext 1) [v13]) ⟨fun v15 =>
 @qb5 (qbv [.slice none 0 0,nv 0] [(0,1),(1,1)] [v14,v15]) ⟨fun v18 =>
 @qbt (xact (.st 2) H2 [H,(.agg v18.toArray)]) ⟨fun _v H3 =>
 @qbb (qbh (some 2) H3 [H]) ⟨fun r0=>R r0 H3⟩⟩⟩⟩⟩⟩⟩
theorem g57_of {q0 n1 d2:Value} {H:AH} {R:Value→AH→Prop} (h:g57 q0 n1 d2 H R):FN Tryz.prog 57 [q0,n1,d2] H R:=
  FN.of_XM (ms:=[]) qbs (cast (by kernel_rfl) h)
def g58 (n0:Value) (H:AH) (R:Value→AH→Prop):Prop:=
 @letH (H++[.cells [nv 0,nv 0] 70 none false]) ⟨fun H1 =>
 @qb5 (qbv [nv 0,nv 0] [(0,1),(1,1)] [n0,nv 1]) ⟨fun v4 =>
 @qbt (xact (.st 2) H1 [H,(.agg v4.toArray)]) ⟨fun _v H2 =>
 @qbb (qbh (some 2) H2 [H]) ⟨fun r0=>R r0 H2⟩⟩⟩⟩
theorem g58_of {n0:Value} {H:AH} {R:Value→AH→Prop} (h:g58 n0 H R):FN Tryz.prog 58 [n0] H R:=
  FN.of_XM (ms:=[]) qbs (cast (by kernel_rfl) h)
def g100 (c0:Value) (H:AH) (R:Value→AH→Prop):Prop:=
 @letH (H++[.cells (qbn c0) 29 none false]) ⟨fun H1 =>
 @qbb (qbh (some 3) H1 [H]) ⟨fun v4 =>
 @cG 38 [v4] H1 ⟨fun v5 H2 =>
 @qbb (eun .not v5) ⟨fun v6 =>
 @qbq v6 ⟨fun q=>if q=true then R (nv 1) H2 else
 @qbb (qbh (some 3) H2 [H]) ⟨fun v8 =>
 @cG 53 [v8] H2 ⟨fun v9 H3 =>
 @qbb (xbin .gtr 0 v9 (nv 4096)) ⟨fun v10 =>
 @qbq v10 ⟨fun q=>if q=true then R (nv 2) H3 else
 R (nv 0) H3⟩⟩⟩⟩⟩⟩⟩⟩⟩
theorem g100_of {c0:Value} {H:AH} {R:Value→AH→Prop} (h:g100 c0 H R):FN Tryz.prog 100 [c0] H R:=
  FN.of_XM (ms:=[]) qbs (cast (by kernel_rfl) h)
def g101 (c0:Value) (H:AH) (R:Value→AH→Prop):Prop:=
 @letH (H++[.cells (qbn c0) 29 none false]) ⟨fun H1 =>
 @qbb (qbc (.fld 0) [H]) ⟨fun v6 =>
 @qbb (qbh none H1 [v6]) ⟨fun v7 =>
 @cG 94 [v7] H1 ⟨fun v8 H2 =>
 @qbb (qbc (.ext 0) [v8]) ⟨fun v9 =>
 @qbb (qbc (.ext 1) [v8]) ⟨fun v10 =>
 @letH (H2++[.cells [nv 0,nv 0,.slice none 0 0] 96 none false]) ⟨fun H3 =>
 @qbt (xact (.st 3) H3 [H2,v9]) ⟨fun _v H4 =>
 @qbb (qbc (.fn 152 0 2) [H,H2]) ⟨fun v11 =>
 R v11 H4⟩⟩⟩⟩⟩⟩⟩⟩⟩
theorem g101_of {c0:Value} {H:AH} {R:Value→AH→Prop} (h:g101 c0 H R):FN Tryz.prog 101 [c0] H R:=
  FN.of_XM (ms:=[]) qbs (cast (by kernel_rfl) h)
def g103 (w0:Value) (H:AH) (R:Value→AH→Prop):Prop:=
 @qbb (qbc .lenS [w0]) ⟨fun v7 =>
 @loopV2 (nv 0) (nv 0) H ⟨fun n3 v8 H1 K1 =>
 @qbb (xbin .lss 0 v8 v7) ⟨fun v9 =>
 @qbq v9 ⟨fun q=>if q=true then @qbb (qbc (.ixS 1) [w0,v8]) ⟨fun v10 =>
 @qbb (qbh none H1 [v10]) ⟨fun v11 =>
 @qbb (xbin .neq 0 v11 (nv 0)) ⟨fun v13 =>
 @qbq v13 ⟨fun q=>if q=true then @qbb (xbin .add 0 n3 (nv 1)) ⟨fun v15 =>
 @qbb (xbin .add 0 v8 (nv 1)) ⟨fun v16 =>
 K1 v15 v16 H1⟩⟩ else
 @qbb (xbin .add 0 v8 (nv 1)) ⟨fun v16a =>
 K1 n3 v16a H1⟩⟩⟩⟩⟩ else
 R n3 H1⟩⟩⟩⟩
theorem g103_of {w0:Value} {H:AH} {R:Value→AH→Prop} (h:g103 w0 H R):FN Tryz.prog 103 [w0] H R:=
  FN.of_XM (ms:=[(4,[3,8])]) qbs (cast (by kernel_rfl) h)
def g104 (q0 n1 words2:Value) (H:AH) (R:Value→AH→Prop):Prop:=
 @cG 154 [q0,n1] H ⟨fun v22 H1 =>
 @qbb (eun .not v22) ⟨fun v23 =>
 @qbg (asNB v23) (fun J1=>J1 words2 H1) H1 ⟨fun v25 H2 =>
 @qbg (asNB v23) (fun J2=>@qbb (qbc .lenS [v25]) ⟨fun v26 =>
 J2 v26 H2⟩) H2 ⟨fun v26a H3 =>
 @qbg (asNB v23) (fun J3=>@qbb (xbin .lss 0 v26a (nv 1)) ⟨fun v27 =>
 J3 v27 H3⟩) H3 ⟨fun v27a H4 =>
 @qb1 v23 (.bool true) v27a ⟨fun v28 =>
 @qbg (asNB v28) (fun J4=>J4 words2 H4) H4 ⟨fun v30 H5 =>
 @qbg (asNB v28) (fun J5=>@qbb (qbc .lenS [v30]) ⟨fun v31 =>
 J5 v31 H5⟩) H5 ⟨fun v31a H6 =>
 @qbg (asNB v28) (fun J6=>@qbb (xbin .gtr 0 v31a (nv 64)) ⟨fun v32 =>
 J6 v32 H6⟩) H6 ⟨fun v32a H7 =>
 @qb1 v28 (.bool true) v32a ⟨fun v33 =>
 @qbq v33 ⟨fun q=>if q=true then R (.tuple [.slice none 0 0,nv 1].toArray) H7 else
 @qbb (xbin .add 0 n1 (nv 1)) ⟨fun v35 =>
 @bindN (xnew (.make (nv 0) 1 8 3) [v35,v35]) ⟨fun cv36 ev36 mkv36=>@letH (H7++[.cells cv36 ev36 none false]) ⟨fun H8 =>
 @qbb (qbc .lenS [words2]) ⟨fun v38 =>
 @loopV1 (nv 0) H8 ⟨fun v39 H9 K7 =>
 @qbb (xbin .lss 0 v39 v38) ⟨fun v40 =>
 @qbq v40 ⟨fun q=>if q=true then @qbb (qbc (.ixS 1) [words2,v39]) ⟨fun v42 =>
 @qbb (qbh none H9 [v42]) ⟨fun v43 =>
 @cG 155 [q0,n1,v43] H9 ⟨fun v47 H10 =>
 @qbb (eun .not v47) ⟨fun v48 =>
 @qbq v48 ⟨fun q=>if q=true then R (.tuple [.slice none 0 0,nv 1].toArray) H10 else
 @qbb (qbc (.ixS 1) [(mkv36 H7.length),nv 0]) ⟨fun v50 =>
 @qbb (qbh none H10 [v50]) ⟨fun v51 =>
 @qbb (xbin .add 0 v51 (nv 1)) ⟨fun v52 =>
 @qbb (qbc (.ixS 1) [(mkv36 H7.length),nv 0]) ⟨fun v53 =>
 @qbt (xact (.st 1) H10 [v53,v52]) ⟨fun _v H11 =>
 @qbb (qbc (.slS 1 false true) [words2,v39]) ⟨fun v56 =>
 @qbb (qbc .lenS [v56]) ⟨fun v57 =>
 @loopV1 (nv 0) H11 ⟨fun v58 H12 K8 =>
 @qbb (xbin .lss 0 v58 v57) ⟨fun v59 =>
 @qbq v59 ⟨fun q=>if q=true then @qbb (qbc (.ixS 1) [v56,v58]) ⟨fun v60 =>
 @qbb (qbh none H12 [v60]) ⟨fun v61 =>
 @qbb (qbc .lenS [v43]) ⟨fun v63 =>
 @loopV2 (nv 0) (nv 0) H12 ⟨fun far13 v64 H13 K9 =>
 @qbb (xbin .lss 0 v64 v63) ⟨fun v65 =>
 @qbq v65 ⟨fun q=>if q=true then @qbb (qbc (.ixS 1) [v43,v64]) ⟨fun v69 =>
 @qbb (qbh none H13 [v69]) ⟨fun v70 =>
 @qbb (qbc (.ixS 1) [v61,v64]) ⟨fun v73 =>
 @qbb (qbh none H13 [v73]) ⟨fun v74 =>
 @qbb (xbin .neq 0 v70 v74) ⟨fun v75 =>
 @qbq v75 ⟨fun q=>if q=true then @qbb (xbin .add 0 far13 (nv 1)) ⟨fun v77 =>
 @qbb (xbin .add 0 v64 (nv 1)) ⟨fun v78 =>
 K9 v77 v78 H13⟩⟩ else
 @qbb (xbin .add 0 v64 (nv 1)) ⟨fun v78a =>
 K9 far13 v78a H13⟩⟩⟩⟩⟩⟩⟩ else
 @qbb (qbc (.ixS 1) [(mkv36 H7.length),far13]) ⟨fun v81 =>
 @qbb (qbh none H13 [v81]) ⟨fun v82 =>
 @qbb (xbin .add 0 v82 (nv 2)) ⟨fun v83 =>
 @qbb (qbc (.ixS 1) [(mkv36 H7.length),far13]) ⟨fun v84 =>
 @qbt (xact (.st 1) H13 [v84,v83]) ⟨fun _v H14 =>
 @qbb (xbin .add 0 v58 (nv 1)) ⟨fun v85 =>
 K8 v85 H14⟩⟩⟩⟩⟩⟩⟩⟩⟩⟩⟩⟩ else
 @qbb (xbin .add 0 v39 (nv 1)) ⟨fun v86 =>
 K7 v86 H12⟩⟩⟩⟩⟩⟩⟩⟩⟩⟩⟩⟩⟩⟩⟩⟩ else
 @qbb (qbc .lenS [(mkv36 H7.length)]) ⟨fun v88 =>
 @loopV2 (.slice none 0 0) (nv 0) H9 ⟨fun out15 v89 H15 K10 =>
 @qbb (xbin .lss 0 v89 v88) ⟨fun v90 =>
 @qbq v90 ⟨fun q=>if q=true then @qbb (qbc (.ixS 1) [(mkv36 H7.length),v89]) ⟨fun v91 =>
 @qbb (qbh none H15 [v91]) ⟨fun v92 =>
 @qbb (qbc .lenS [words2]) ⟨fun v96 =>
 @cG 156 [v92,v96] H15 ⟨fun v97 H16 =>
 @qbb (qbc (.ext 0) [v97]) ⟨fun v98 =>
 @qbb (qbc (.ext 1) [v97]) ⟨fun v99 =>
 @letH (H16++[.cells [nv 0,nv 0] 70 none false]) ⟨fun H17 =>
 @qbt (xact (.st 2) H17 [H16,v98]) ⟨fun _v H18 =>
 @qbb (qbh (some 2) H18 [H16]) ⟨fun v101 =>
 @qb5 (qbv [nv 0,nv 0] [(0,2)] [v101]) ⟨fun cv102=>@letH (H18++[.cells cv102 70 none false]) ⟨fun H19 =>
 @qbt (xact (.app 70 2 16) H19 [out15,(.slice (some ⟨H18.length,0,none⟩) 1 1)]) ⟨fun v103 H20 =>
 @qbb (xbin .add 0 v89 (nv 1)) ⟨fun v104 =>
 K10 v103 v104 H20⟩⟩⟩⟩⟩⟩⟩⟩⟩⟩⟩⟩⟩ else
 R (.tuple [out15,nv 0].toArray) H15⟩⟩⟩⟩⟩⟩⟩⟩⟩⟩⟩⟩⟩⟩⟩⟩⟩⟩⟩⟩⟩⟩
theorem g104_of {q0 n1 words2:Value} {H:AH} {R:Value→AH→Prop} (h:g104 q0 n1 words2 H R):FN Tryz.prog 104 [q0,n1,words2] H R:=
  FN.of_XM (ms:=[(7,[39]),(17,[58]),(25,[13,64]),(34,[15,89])]) qbs (cast (by kernel_rfl) h)
def g105 (q0 n1 w2:Value) (H:AH) (R:Value→AH→Prop):Prop:=
 @cG 154 [q0,n1] H ⟨fun v18 H1 =>
 @qbb (eun .not v18) ⟨fun v19 =>
 @qbq v19 ⟨fun q=>if q=true then R (.tuple [.slice none 0 0,nv 1].toArray) H1 else
 @cG 157 [q0,n1,nv 30] H1 ⟨fun v22 H2 =>
 @qbb (eun .not v22) ⟨fun v23 =>
 @qbq v23 ⟨fun q=>if q=true then R (.tuple [.slice none 0 0,nv 2].toArray) H2 else
 @qbb (qbc .lenS [w2]) ⟨fun v25 =>
 @qbb (xbin .add 0 n1 (nv 1)) ⟨fun v27 =>
 @qbb (xbin .neq 0 v25 v27) ⟨fun v28 =>
 @qbq v28 ⟨fun q=>if q=true then R (.tuple [.slice none 0 0,nv 1].toArray) H2 else
 @cG 158 [q0,n1] H2 ⟨fun v31 H3 =>
 @qbb (qbc .lenS [w2]) ⟨fun v33 =>
 @loopV2 (nv 0) (nv 0) H3 ⟨fun m9 v34 H4 K1 =>
 @qbb (xbin .lss 0 v34 v33) ⟨fun v35 =>
 @qbq v35 ⟨fun q=>if q=true then @qbb (qbc (.ixS 1) [w2,v34]) ⟨fun v36 =>
 @qbb (qbh none H4 [v36]) ⟨fun v37 =>
 @qbb (xbin .lss 0 v37 (nv 0)) ⟨fun v39 =>
 @qbg (asNB v39) (fun J2=>J2 v37 H4) H4 ⟨fun v41 H5 =>
 @qbg (asNB v39) (fun J3=>J3 v31 H5) H5 ⟨fun v42 H6 =>
 @qbg (asNB v39) (fun J4=>J4 m9 H6) H6 ⟨fun v43 H7 =>
 @qbg (asNB v39) (fun J5=>@qbb (xbin .sub 0 v42 v43) ⟨fun v44 =>
 J5 v44 H7⟩) H7 ⟨fun v44a H8 =>
 @qbg (asNB v39) (fun J6=>@qbb (xbin .gtr 0 v41 v44a) ⟨fun v45 =>
 J6 v45 H8⟩) H8 ⟨fun v45a H9 =>
 @qb1 v39 (.bool true) v45a ⟨fun v46 =>
 @qbq v46 ⟨fun q=>if q=true then R (.tuple [.slice none 0 0,nv 1].toArray) H9 else
 @qbb (xbin .add 0 m9 v37) ⟨fun v49 =>
 @qbb (xbin .add 0 v34 (nv 1)) ⟨fun v50 =>
 K1 v49 v50 H9⟩⟩⟩⟩⟩⟩⟩⟩⟩⟩⟩⟩ else
 @qbb (xbin .eql 0 m9 (nv 0)) ⟨fun v52 =>
 @qbq v52 ⟨fun q=>if q=true then R (.tuple [.slice none 0 0,nv 1].toArray) H4 else
 @qbb (xbin .add 0 n1 (nv 1)) ⟨fun v54 =>
 @bindN (xnew (.make (nv 0) 1 8 3) [v54,v54]) ⟨fun cv55 ev55 mkv55=>@letH (H4++[.cells cv55 ev55 none false]) ⟨fun H10 =>
 @qbb (qbc .lenS [(mkv55 H4.length)]) ⟨fun v57 =>
 @loopV1 (nv 0) H10 ⟨fun v58 H11 K7 =>
 @qbb (xbin .lss 0 v58 v57) ⟨fun v59 =>
 @qbq v59 ⟨fun q=>if q=true then @qbb (qbc .lenS [w2]) ⟨fun v62 =>
 @loopV1 (nv 0) H11 ⟨fun v63 H12 K8 =>
 @qbb (xbin .lss 0 v63 v62) ⟨fun v64 =>
 @qbq v64 ⟨fun q=>if q=true then @qbb (qbc (.ixS 1) [w2,v63]) ⟨fun v66 =>
 @qbb (qbh none H12 [v66]) ⟨fun v67 =>
 @qbb (qbc (.ixS 1) [(mkv55 H4.length),v58]) ⟨fun v70 =>
 @qbb (qbh none H12 [v70]) ⟨fun v71 =>
 @cG 159 [q0,n1,v58,v63] H12 ⟨fun v77 H13 =>
 (chkX [3] (⟨3,none,[v70],v71⟩ :: []) H13∧@qbb (xbin .mul 0 v67 v77) ⟨fun v78 =>
 @qbb (xbin .add 0 v71 v78) ⟨fun v79 =>
 @qbb (qbc (.ixS 1) [(mkv55 H4.length),v58]) ⟨fun v80 =>
 @qbt (xact (.st 1) H13 [v80,v79]) ⟨fun _v H14 =>
 @qbb (xbin .add 0 v63 (nv 1)) ⟨fun v81 =>
 K8 v81 H14⟩⟩⟩⟩⟩)⟩⟩⟩⟩⟩ else
 @qbb (qbc (.ixS 1) [(mkv55 H4.length),v58]) ⟨fun v84 =>
 @qbb (qbh none H12 [v84]) ⟨fun v85 =>
 @qbb (xbin .lss 0 v85 (nv 0)) ⟨fun v86 =>
 @qbg (asNB v86) (fun J9=>J9 (mkv55 H4.length) H12) H12 ⟨fun v88 H15 =>
 @qbg (asNB v86) (fun J10=>J10 v58 H15) H15 ⟨fun v89 H16 =>
 @qbg (asNB v86) (fun J11=>@qbb (qbc (.ixS 1) [v88,v89]) ⟨fun v90 =>
 J11 v90 H16⟩) H16 ⟨fun v90a H17 =>
 @qbg (asNB v86) (fun J12=>@qbb (qbh none H17 [v90a]) ⟨fun v91 =>
 J12 v91 H17⟩) H17 ⟨fun v91a H18 =>
 @qbg (asNB v86) (fun J13=>J13 m9 H18) H18 ⟨fun v92 H19 =>
 @qbg (asNB v86) (fun J14=>@qbb (xbin .rem 0 v91a v92) ⟨fun v93 =>
 J14 v93 H19⟩) H19 ⟨fun v93a H20 =>
 @qbg (asNB v86) (fun J15=>@qbb (xbin .neq 0 v93a (nv 0)) ⟨fun v94 =>
 J15 v94 H20⟩) H20 ⟨fun v94a H21 =>
 @qb1 v86 (.bool true) v94a ⟨fun v95 =>
 @qbq v95 ⟨fun q=>if q=true then R (.tuple [.slice none 0 0,nv 6].toArray) H21 else
 @qbb (qbc (.ixS 1) [(mkv55 H4.length),v58]) ⟨fun v98 =>
 @qbb (qbh none H21 [v98]) ⟨fun v99 =>
 @qbb (xbin .quo 0 v99 m9) ⟨fun v101 =>
 @qbb (qbc (.ixS 1) [(mkv55 H4.length),v58]) ⟨fun v102 =>
 @qbt (xact (.st 1) H21 [v102,v101]) ⟨fun _v H22 =>
 @qbb (xbin .add 0 v58 (nv 1)) ⟨fun v103 =>
 K7 v103 H22⟩⟩⟩⟩⟩⟩⟩⟩⟩⟩⟩⟩⟩⟩⟩⟩⟩⟩⟩⟩⟩⟩ else
 R (.tuple [(mkv55 H4.length),nv 0].toArray) H11⟩⟩⟩⟩⟩⟩⟩⟩⟩⟩⟩⟩⟩⟩⟩⟩⟩⟩⟩⟩⟩⟩⟩⟩
theorem g105_of {q0 n1 w2:Value} {H:AH} {R:Value→AH→Prop} (h:g105 q0 n1 w2 H R):FN Tryz.prog 105 [q0,n1,w2] H R:=
  FN.of_XM (ms:=[(13,[9,34]),(27,[58]),(34,[63])]) qbs (cast (by kernel_rfl) h)
def g106 (q0 n1 d2:Value) (H:AH) (R:Value→AH→Prop):Prop:=
 @letH (H++[.cells [.slice none 0 0] 61 none false]) ⟨fun H1 =>
 @letH (H1++[.cells [nv 0] 35 none false]) ⟨fun H2 =>
 @cG 154 [q0,n1] H2 ⟨fun v20 H3 =>
 @qbb (eun .not v20) ⟨fun v21 =>
 @qbq v21 ⟨fun q=>if q=true then @qbt (xact (.st 1) H3 [H,.slice none 0 0]) ⟨fun _v H4 =>
 @qbt (xact (.st 1) H4 [H1,nv 1]) ⟨fun _v H5 =>
 @qbb (qbh none H5 [H]) ⟨fun r0=>@qbb (qbh none H5 [H1]) ⟨fun r1=>R (.tuple [r0,r1].toArray) H5⟩⟩⟩⟩ else
 @cG 157 [q0,n1,nv 30] H3 ⟨fun v24 H6 =>
 @qbb (eun .not v24) ⟨fun v25 =>
 @qbq v25 ⟨fun q=>if q=true then @qbt (xact (.st 1) H6 [H,.slice none 0 0]) ⟨fun _v H7 =>
 @qbt (xact (.st 1) H7 [H1,nv 2]) ⟨fun _v H8 =>
 @qbb (qbh none H8 [H]) ⟨fun r0=>@qbb (qbh none H8 [H1]) ⟨fun r1=>R (.tuple [r0,r1].toArray) H8⟩⟩⟩⟩ else
 @qbb (qbc .lenS [d2]) ⟨fun v27 =>
 @qbb (xbin .add 0 n1 (nv 1)) ⟨fun v29 =>
 @qbb (xbin .neq 0 v27 v29) ⟨fun v30 =>
 @qbq v30 ⟨fun q=>if q=true then @qbt (xact (.st 1) H6 [H,.slice none 0 0]) ⟨fun _v H9 =>
 @qbt (xact (.st 1) H9 [H1,nv 1]) ⟨fun _v H10 =>
 @qbb (qbh none H10 [H]) ⟨fun r0=>@qbb (qbh none H10 [H1]) ⟨fun r1=>R (.tuple [r0,r1].toArray) H10⟩⟩⟩⟩ else
 @qbb (qbc .lenS [d2]) ⟨fun v32 =>
 @loopV2 (.bool true) (nv 0) H6 ⟨fun v8 v33 H11 K1 =>
 @qbb (xbin .lss 0 v33 v32) ⟨fun v34 =>
 @qbq v34 ⟨fun q=>if q=true then @qbb (qbc (.ixS 2) [d2,v33]) ⟨fun v35 =>
 @qbb (qbh (some 2) H11 [v35]) ⟨fun v36 =>
 @letH (H11++[.cells [nv 0,nv 0] 70 none false]) ⟨fun H12 =>
 @qbt (xact (.st 2) H12 [H11,v36]) ⟨fun _v H13 =>
 @qbb (qbh (some 2) H13 [H11]) ⟨fun v37 =>
 @cG 160 [v37] H13 ⟨fun v38 H14 =>
 @qbb (eun .not v38) ⟨fun v39 =>
 @qbg (asNB v39) (fun J2=>@qbb (qbc (.fld 0) [H11]) ⟨fun v41 =>
 J2 v41 H14⟩) H14 ⟨fun v41a H15 =>
 @qbg (asNB v39) (fun J3=>@qbb (qbh none H15 [v41a]) ⟨fun v42 =>
 J3 v42 H15⟩) H15 ⟨fun v42a H16 =>
 @qbg (asNB v39) (fun J4=>@qbb (xbin .lss 0 v42a (nv 0)) ⟨fun v43 =>
 J4 v43 H16⟩) H16 ⟨fun v43a H17 =>
 @qb1 v39 (.bool true) v43a ⟨fun v44 =>
 @qbg (asNB v44) (fun J5=>@qbb (qbc (.fld 0) [H11]) ⟨fun v46 =>
 J5 v46 H17⟩) H17 ⟨fun v46a H18 =>
 @qbg (asNB v44) (fun J6=>@qbb (qbh none H18 [v46a]) ⟨fun v47 =>
 J6 v47 H18⟩) H18 ⟨fun v47a H19 =>
 @qbg (asNB v44) (fun J7=>@qbb (xbin .gtr 0 v47a (nv 1048576)) ⟨fun v48 =>
 J7 v48 H19⟩) H19 ⟨fun v48a H20 =>
 @qb1 v44 (.bool true) v48a ⟨fun v49 =>
 @qbg (asNB v49) (fun J8=>@qbb (qbc (.fld 1) [H11]) ⟨fun v51 =>
 J8 v51 H20⟩) H20 ⟨fun v51a H21 =>
 @qbg (asNB v49) (fun J9=>@qbb (qbh none H21 [v51a]) ⟨fun v52 =>
 J9 v52 H21⟩) H21 ⟨fun v52a H22 =>
 @qbg (asNB v49) (fun J10=>@qbb (xbin .gtr 0 v52a (nv 1048576)) ⟨fun v53 =>
 J10 v53 H22⟩) H22 ⟨fun v53a H23 =>
 @qb1 v49 (.bool true) v53a ⟨fun v54 =>
 @qbq v54 ⟨fun q=>if q=true then @qbt (xact (.st 1) H23 [H,.slice none 0 0]) ⟨fun _v H24 =>
 @qbt (xact (.st 1) H24 [H1,nv 1]) ⟨fun _v H25 =>
 @qbb (qbh none H25 [H]) ⟨fun r0=>@qbb (qbh none H25 [H1]) ⟨fun r1=>R (.tuple [r0,r1].toArray) H25⟩⟩⟩⟩ else
 @qbg (asB v8) (fun J11=>@qbb (qbc (.fld 0) [H11]) ⟨fun v57 =>
 J11 v57 H23⟩) H23 ⟨fun v57a H26 =>
 @qbg (asB v8) (fun J12=>@qbb (qbh none H26 [v57a]) ⟨fun v58 =>
 J12 v58 H26⟩) H26 ⟨fun v58a H27 =>
 @qbg (asB v8) (fun J13=>@qbb (xbin .eql 0 v58a (nv 0)) ⟨fun v59 =>
 J13 v59 H27⟩) H27 ⟨fun v59a H28 =>
 @qb1 v8 v59a (.bool false) ⟨fun v60 =>
 @qbb (xbin .add 0 v33 (nv 1)) ⟨fun v61 =>
 K1 v60 v61 H28⟩⟩⟩⟩⟩⟩⟩⟩⟩⟩⟩⟩⟩⟩⟩⟩⟩⟩⟩⟩⟩⟩⟩⟩⟩ else
 @qbq v8 ⟨fun q=>if q=true then @qbt (xact (.st 1) H11 [H,.slice none 0 0]) ⟨fun _v H29 =>
 @qbt (xact (.st 1) H29 [H1,nv 1]) ⟨fun _v H30 =>
 @qbb (qbh none H30 [H]) ⟨fun r0=>@qbb (qbh none H30 [H1]) ⟨fun r1=>R (.tuple [r0,r1].toArray) H30⟩⟩⟩⟩ else
 @qbb (qbc (.fn 161 0 2) [H,H1]) ⟨fun v63 =>
 @qbb (qbc (.dfr [161]) [v63]) ⟨fun _v =>
 @qb5 (qbv [nv 0,nv 0] [(1,1)] [nv 1]) ⟨fun v64 =>
 @letH (H11++[.cells [nv 0,nv 0] 70 none false]) ⟨fun H31 =>
 @qbt (xact (.st 2) H31 [H11,(.agg v64.toArray)]) ⟨fun _v H32 =>
 @qbb (qbc .lenS [d2]) ⟨fun v66 =>
 @loopV1 (nv 0) H32 ⟨fun v67 H33 K14 =>
 @qbb (xbin .lss 0 v67 v66) ⟨fun v68 =>
 @qbq v68 ⟨fun q=>if q=true then @qbb (qbc (.ixS 2) [d2,v67]) ⟨fun v69 =>
 @qbb (qbh (some 2) H33 [v69]) ⟨fun v70 =>
 @letH (H33++[.cells [nv 0,nv 0] 70 none false]) ⟨fun H34 =>
 @qbt (xact (.st 2) H34 [H33,v70]) ⟨fun _v H35 =>
 @qbb (qbh (some 2) H35 [H11]) ⟨fun v71 =>
 @qbb (qbh (some 2) H35 [H33]) ⟨fun v72 =>
 @cG 163 [v71,v72] H35 ⟨fun v73 H36 =>
 @qbb (qbc (.ext 0) [v73]) ⟨fun v74 =>
 @qbb (qbc (.ext 1) [v73]) ⟨fun v75 =>
 @cG 162 [v74,v75] H36 ⟨fun v76 H37 =>
 @qbt (xact (.st 2) H37 [H11,v76]) ⟨fun _v H38 =>
 @qbb (xbin .add 0 v67 (nv 1)) ⟨fun v77 =>
 K14 v77 H38⟩⟩⟩⟩⟩⟩⟩⟩⟩⟩⟩⟩ else
 @qbb (xbin .add 0 n1 (nv 1)) ⟨fun v79 =>
 @loopV1 (nv 0) H33 ⟨fun v80 H39 K15 =>
 @qbb (xbin .lss 0 v80 v79) ⟨fun v81 =>
 @qbq v81 ⟨fun q=>if q=true then @qb5 (qbv [nv 0,nv 0] [(1,1)] [nv 1]) ⟨fun v83 =>
 @letH (H39++[.cells [nv 0,nv 0] 70 none false]) ⟨fun H40 =>
 @qbt (xact (.st 2) H40 [H39,(.agg v83.toArray)]) ⟨fun _v H41 =>
 @qbb (qbc .lenS [d2]) ⟨fun v85 =>
 @loopV1 (nv 0) H41 ⟨fun v86 H42 K16 =>
 @qbb (xbin .lss 0 v86 v85) ⟨fun v87 =>
 @qbq v87 ⟨fun q=>if q=true then @qbb (qbc (.ixS 2) [d2,v86]) ⟨fun v89 =>
 @qbb (qbh (some 2) H42 [v89]) ⟨fun v90 =>
 @letH (H42++[.cells [nv 0,nv 0] 70 none false]) ⟨fun H43 =>
 @qbt (xact (.st 2) H43 [H42,v90]) ⟨fun _v H44 =>
 @qbb (qbh (some 2) H44 [H39]) ⟨fun v91 =>
 @qbb (qbh (some 2) H44 [H42]) ⟨fun v92 =>
 @cG 159 [q0,n1,v80,v86] H44 ⟨fun v97 H45 =>
 (chkX [1,0] (⟨1,(some 2),[H42],v92⟩ :: (⟨0,(some 2),[H39],v91⟩ :: [])) H45∧@qb5 (qbv [nv 0,nv 0] [(0,1),(1,1)] [v97,nv 1]) ⟨fun v98 =>
 @cG 164 [v92,(.agg v98.toArray)] H45 ⟨fun v99 H46 =>
 (chkX [0] (⟨1,(some 2),[H42],v92⟩ :: (⟨0,(some 2),[H39],v91⟩ :: [])) H46∧@qbb (qbc (.ext 0) [v99]) ⟨fun v100 =>
 @qbb (qbc (.ext 1) [v99]) ⟨fun v101 =>
 @cG 162 [v100,v101] H46 ⟨fun v102 H47 =>
 (chkX [0] (⟨1,(some 2),[H42],v92⟩ :: (⟨0,(some 2),[H39],v91⟩ :: [])) H47∧@cG 163 [v91,v102] H47 ⟨fun v103 H48 =>
 @qbb (qbc (.ext 0) [v103]) ⟨fun v104 =>
 @qbb (qbc (.ext 1) [v103]) ⟨fun v105 =>
 @cG 162 [v104,v105] H48 ⟨fun v106 H49 =>
 @qbt (xact (.st 2) H49 [H39,v106]) ⟨fun _v H50 =>
 @qbb (xbin .add 0 v86 (nv 1)) ⟨fun v107 =>
 K16 v107 H50⟩⟩⟩⟩⟩⟩)⟩⟩⟩)⟩⟩)⟩⟩⟩⟩⟩⟩⟩ else
 @qbb (qbh none H42 [H]) ⟨fun v108 =>
 @qbb (qbh (some 2) H42 [H39]) ⟨fun v109 =>
 @qbb (qbh (some 2) H42 [H11]) ⟨fun v110 =>
 @cG 165 [v109,v110] H42 ⟨fun v111 H51 =>
 (chkX [0] (⟨0,none,[H],v108⟩ :: []) H51∧@qbb (qbc (.ext 0) [v111]) ⟨fun v112 =>
 @qbb (qbc (.ext 1) [v111]) ⟨fun v113 =>
 @cG 162 [v112,v113] H51 ⟨fun v114 H52 =>
 (chkX [0] (⟨0,none,[H],v108⟩ :: []) H52∧@qb5 (qbv [nv 0,nv 0] [(0,2)] [v114]) ⟨fun cv115=>@letH (H52++[.cells cv115 70 none false]) ⟨fun H53 =>
 (chkX [0] (⟨0,none,[H],v108⟩ :: []) H53∧@qbt (xact (.app 70 2 16) H53 [v108,(.slice (some ⟨H52.length,0,none⟩) 1 1)]) ⟨fun v116 H54 =>
 @qbt (xact (.st 1) H54 [H,v116]) ⟨fun _v H55 =>
 @qbb (xbin .add 0 v80 (nv 1)) ⟨fun v117 =>
 K15 v117 H55⟩⟩⟩)⟩⟩)⟩⟩⟩)⟩⟩⟩⟩⟩⟩⟩⟩⟩⟩⟩ else
 @qbb (qbh none H39 [H]) ⟨fun v118 =>
 @qbt (xact (.st 1) H39 [H,v118]) ⟨fun _v H56 =>
 @qbt (xact (.st 1) H56 [H1,nv 0]) ⟨fun _v H57 =>
 @qbb (qbh none H57 [H]) ⟨fun r0=>@qbb (qbh none H57 [H1]) ⟨fun r1=>R (.tuple [r0,r1].toArray) H57⟩⟩⟩⟩⟩⟩⟩⟩⟩⟩⟩⟩⟩⟩⟩⟩⟩⟩⟩⟩⟩⟩⟩⟩⟩⟩⟩⟩⟩⟩⟩⟩⟩⟩⟩
theorem g106_of {q0 n1 d2:Value} {H:AH} {R:Value→AH→Prop} (h:g106 q0 n1 d2 H R):FN Tryz.prog 106 [q0,n1,d2] H R:=
  FN.of_XM (ms:=[(13,[8,33]),(28,[67]),(35,[80]),(43,[86])]) qbs (cast (by kernel_rfl) h)
def g152 (yield0 v1 v2:Value) (H:AH) (R:Value→AH→Prop):Prop:=
 @letH (H++[.cells (qbn yield0) 141 none false]) ⟨fun H1 =>
 @letH (H1++[.cells [.nilFunc] 147 none false]) ⟨fun H2 =>
 @qbb (qbc (.fn 153 0 4) [v1,H,v2,H1]) ⟨fun v5 =>
 @qbt (xact (.st 1) H2 [H1,v5]) ⟨fun _v H3 =>
 @qbb (qbh none H3 [H1]) ⟨fun v6 =>
 @qbb (qbc (.fld 1) [v1]) ⟨fun v7 =>
 @qbb (qbh none H3 [v7]) ⟨fun v8 =>
 @bindN (xnew (.make (nv 0) 1 8 3) [v8,v8]) ⟨fun cv9 ev9 mkv9=>@letH (H3++[.cells cv9 ev9 none false]) ⟨fun H4 =>
 @qjc Tryz.prog [v6,nv 0,(mkv9 H3.length)] H4 ⟨fun v10 H5 =>
 R (.tuple [].toArray) H5⟩⟩⟩⟩⟩⟩⟩⟩⟩⟩
theorem g152_of {yield0 v1 v2:Value} {H:AH} {R:Value→AH→Prop} (h:g152 yield0 v1 v2 H R):FN Tryz.prog 152 [yield0,v1,v2] H R:=
  FN.of_XM (ms:=[]) qbs (cast (by kernel_rfl) h)
def g153 (i0 w1 v2 v3 v4 v5:Value) (H:AH) (R:Value→AH→Prop):Prop:=
 @qbb (qbc (.fld 2) [v2]) ⟨fun v12 =>
 @qbb (qbh none H [v12]) ⟨fun v13 =>
 @qbb (qbc .lenS [v13]) ⟨fun v14 =>
 @qbb (xbin .eql 0 i0 v14) ⟨fun v15 =>
 @qbq v15 ⟨fun q=>if q=true then @qbb (qbh none H [v3]) ⟨fun v16 =>
 @qjc Tryz.prog [v16,w1] H ⟨fun v18 H1 =>
 R v18 H1⟩⟩ else
 @cG 102 [w1] H ⟨fun v20 H2 =>
 @qbb (qbc (.fld 0) [v2]) ⟨fun v21 =>
 @qbb (qbh none H2 [v21]) ⟨fun v22 =>
 @loopV1 (nv 0) H2 ⟨fun v23 H3 K1 =>
 @qbb (xbin .lss 0 v23 v22) ⟨fun v24 =>
 @qbq v24 ⟨fun q=>if q=true then @qbt (xact (.cpy 1) H3 [v20,w1]) ⟨fun v28 H4 =>
 @qbb (qbh (some 3) H4 [v4]) ⟨fun v29 =>
 @qbb (qbc (.fld 2) [v2]) ⟨fun v32 =>
 @qbb (qbh none H4 [v32]) ⟨fun v33 =>
 @qbb (qbc (.ixS 1) [v33,i0]) ⟨fun v35 =>
 @qbb (qbh none H4 [v35]) ⟨fun v36 =>
 @cG 95 [v29,v20,v23,v36] H4 ⟨fun v37 H5 =>
 @qbb (qbh none H5 [v5]) ⟨fun v38 =>
 @qbb (xbin .add 0 i0 (nv 1)) ⟨fun v40 =>
 @qjc Tryz.prog [v38,v40,v20] H5 ⟨fun v42 H6 =>
 @qbb (eun .not v42) ⟨fun v43 =>
 @qbq v43 ⟨fun q=>if q=true then R (.bool false) H6 else
 @qbb (xbin .add 0 v23 (nv 1)) ⟨fun v44 =>
 K1 v44 H6⟩⟩⟩⟩⟩⟩⟩⟩⟩⟩⟩⟩⟩ else
 R (.bool true) H3⟩⟩⟩⟩⟩⟩⟩⟩⟩⟩⟩
theorem g153_of {i0 w1 v2 v3 v4 v5:Value} {H:AH} {R:Value→AH→Prop} (h:g153 i0 w1 v2 v3 v4 v5 H R):FN Tryz.prog 153 [i0,w1,v2,v3,v4,v5] H R:=
  FN.of_XM (ms:=[(7,[23])]) qbs (cast (by kernel_rfl) h)
def g154 (q0 n1:Value) (H:AH) (R:Value→AH→Prop):Prop:=
 @qbb (xbin .geq 0 q0 (nv 2)) ⟨fun v6 =>
 @qbg (asB v6) (fun J1=>J1 q0 H) H ⟨fun v8 H1 =>
 @qbg (asB v6) (fun J2=>@qbb (xbin .leq 0 v8 (nv 16)) ⟨fun v9 =>
 J2 v9 H1⟩) H1 ⟨fun v9a H2 =>
 @qb1 v6 v9a (.bool false) ⟨fun v10 =>
 @qbg (asB v10) (fun J3=>J3 n1 H2) H2 ⟨fun v12 H3 =>
 @qbg (asB v10) (fun J4=>@qbb (xbin .geq 0 v12 (nv 0)) ⟨fun v13 =>
 J4 v13 H3⟩) H3 ⟨fun v13a H4 =>
 @qb1 v10 v13a (.bool false) ⟨fun v14 =>
 @qbg (asB v14) (fun J5=>J5 n1 H4) H4 ⟨fun v16 H5 =>
 @qbg (asB v14) (fun J6=>@qbb (xbin .leq 0 v16 (nv 24)) ⟨fun v17 =>
 J6 v17 H5⟩) H5 ⟨fun v17a H6 =>
 @qb1 v14 v17a (.bool false) ⟨fun v18 =>
 R v18 H6⟩⟩⟩⟩⟩⟩⟩⟩⟩⟩
theorem g154_of {q0 n1:Value} {H:AH} {R:Value→AH→Prop} (h:g154 q0 n1 H R):FN Tryz.prog 154 [q0,n1] H R:=
  FN.of_XM (ms:=[]) qbs (cast (by kernel_rfl) h)
def g155 (q0 n1 w2:Value) (H:AH) (R:Value→AH→Prop):Prop:=
 @qbb (qbc .lenS [w2]) ⟨fun v10 =>
 @loopV1 (nv 0) H ⟨fun v11 H1 K1 =>
 @qbb (xbin .lss 0 v11 v10) ⟨fun v12 =>
 @qbq v12 ⟨fun q=>if q=true then @qbb (qbc (.ixS 1) [w2,v11]) ⟨fun v13 =>
 @qbb (qbh none H1 [v13]) ⟨fun v14 =>
 @qbb (xbin .lss 0 v14 (nv 0)) ⟨fun v16 =>
 @qbg (asNB v16) (fun J2=>J2 v14 H1) H1 ⟨fun v18 H2 =>
 @qbg (asNB v16) (fun J3=>J3 q0 H2) H2 ⟨fun v19 H3 =>
 @qbg (asNB v16) (fun J4=>@qbb (xbin .geq 0 v18 v19) ⟨fun v20 =>
 J4 v20 H3⟩) H3 ⟨fun v20a H4 =>
 @qb1 v16 (.bool true) v20a ⟨fun v21 =>
 @qbq v21 ⟨fun q=>if q=true then R (.bool false) H4 else
 @qbb (xbin .add 0 v11 (nv 1)) ⟨fun v22 =>
 K1 v22 H4⟩⟩⟩⟩⟩⟩⟩⟩⟩ else
 @qbb (qbc .lenS [w2]) ⟨fun v24 =>
 @qbb (xbin .eql 0 v24 n1) ⟨fun v26 =>
 R v26 H1⟩⟩⟩⟩⟩⟩
theorem g155_of {q0 n1 w2:Value} {H:AH} {R:Value→AH→Prop} (h:g155 q0 n1 w2 H R):FN Tryz.prog 155 [q0,n1,w2] H R:=
  FN.of_XM (ms:=[(3,[11])]) qbs (cast (by kernel_rfl) h)
def g156 (n0 d1:Value) (H:AH) (R:Value→AH→Prop):Prop:=
 @letH (H++[.cells [nv 0,nv 0] 70 none false]) ⟨fun H1 =>
 @qbb (xbin .eql 0 d1 (nv 0)) ⟨fun v8 =>
 @qbq v8 ⟨fun q=>if q=true then @qb5 (qbv [nv 0,nv 0] [] []) ⟨fun v9 =>
 @qbt (xact (.st 2) H1 [H,(.agg v9.toArray)]) ⟨fun _v H2 =>
 @qbb (qbh (some 2) H2 [H]) ⟨fun r0=>R (.tuple [r0,nv 3].toArray) H2⟩⟩⟩ else
 @qbb (xbin .eql 0 n0 (nv 0)) ⟨fun v11 =>
 @qbq v11 ⟨fun q=>if q=true then @cG 189 [] H1 ⟨fun v12 H3 =>
 @qbb (qbc (.ext 0) [v12]) ⟨fun v13 =>
 @qbb (qbc (.ext 1) [v12]) ⟨fun v14 =>
 @qbt (xact (.st 2) H3 [H,v13]) ⟨fun _v H4 =>
 @qbb (qbh (some 2) H4 [H]) ⟨fun r0=>R (.tuple [r0,v14].toArray) H4⟩⟩⟩⟩⟩ else
 @cG 191 [n0] H1 ⟨fun v16 H5 =>
 @cG 191 [d1] H5 ⟨fun v18 H6 =>
 @qb5 (qbv [(.int .u64 0),(.int .u64 0)] [(0,1),(1,1)] [v16,v18]) ⟨fun cv19=>@letH (H6++[.cells cv19 176 none false]) ⟨fun H7 =>
 @cG 190 [(.slice (some ⟨H6.length,0,none⟩) 2 2)] H7 ⟨fun v20 H8 =>
 @qbb (xbin .lss 0 n0 (nv 0)) ⟨fun v22 =>
 @qbb (xbin .lss 0 d1 (nv 0)) ⟨fun v24 =>
 @qbb (xbin .neq 1 v22 v24) ⟨fun v25 =>
 @cG 191 [n0] H8 ⟨fun v27 H9 =>
 @qbb (xbin .quo 0 v27 v20) ⟨fun v29 =>
 @qb5 (qbv [(.bool false),(.int .u64 0),(.int .u64 0)] [(0,1),(1,1),(2,1)] [v25,(.int .u64 0),v29]) ⟨fun v30 =>
 @cG 191 [d1] H9 ⟨fun v32 H10 =>
 @qbb (xbin .quo 0 v32 v20) ⟨fun v34 =>
 @qb5 (qbv [(.bool false),(.int .u64 0),(.int .u64 0)] [(0,1),(1,1),(2,1)] [(.bool false),(.int .u64 0),v34]) ⟨fun v35 =>
 @cG 192 [(.agg v30.toArray),(.agg v35.toArray)] H10 ⟨fun v36 H11 =>
 @qbb (qbc (.ext 0) [v36]) ⟨fun v37 =>
 @qbb (qbc (.ext 1) [v36]) ⟨fun v38 =>
 @qbt (xact (.st 2) H11 [H,v37]) ⟨fun _v H12 =>
 @qbb (qbh (some 2) H12 [H]) ⟨fun r0=>R (.tuple [r0,v38].toArray) H12⟩⟩⟩⟩⟩⟩⟩⟩⟩⟩⟩⟩⟩⟩⟩⟩⟩⟩⟩⟩⟩⟩⟩⟩
theorem g156_of {n0 d1:Value} {H:AH} {R:Value→AH→Prop} (h:g156 n0 d1 H R):FN Tryz.prog 156 [n0,d1] H R:=
  FN.of_XM (ms:=[]) qbs (cast (by kernel_rfl) h)
def g157 (q0 n1 limit2:Value) (H:AH) (R:Value→AH→Prop):Prop:=
 @loopV2 (.int .u64 1) (nv 0) H ⟨fun out7 v11 H1 K1 =>
 @qbb (xbin .lss 0 v11 n1) ⟨fun v12 =>
 @qbq v12 ⟨fun q=>if q=true then @qbb (qbc (.conv .u64) [q0]) ⟨fun v16 =>
 @cG 193 [out7,v16] H1 ⟨fun v17 H2 =>
 @qbb (qbc (.ext 0) [v17]) ⟨fun v18 =>
 @qbb (qbc (.ext 1) [v17]) ⟨fun v19 =>
 @qbb (xbin .neq 0 v18 (.int .u64 0)) ⟨fun v21 =>
 @qbg (asNB v21) (fun J2=>J2 v19 H2) H2 ⟨fun v23 H3 =>
 @qbg (asNB v21) (fun J3=>J3 limit2 H3) H3 ⟨fun v24 H4 =>
 @qbg (asNB v21) (fun J4=>@qbb (xbin .shl 0 (.int .u64 1) v24) ⟨fun v25 =>
 J4 v25 H4⟩) H4 ⟨fun v25a H5 =>
 @qbg (asNB v21) (fun J5=>@qbb (xbin .gtr 0 v23 v25a) ⟨fun v26 =>
 J5 v26 H5⟩) H5 ⟨fun v26a H6 =>
 @qb1 v21 (.bool true) v26a ⟨fun v27 =>
 @qbq v27 ⟨fun q=>if q=true then R (.bool false) H6 else
 @qbb (xbin .add 0 v11 (nv 1)) ⟨fun v29 =>
 K1 v19 v29 H6⟩⟩⟩⟩⟩⟩⟩⟩⟩⟩⟩⟩ else
 R (.bool true) H1⟩⟩⟩
theorem g157_of {q0 n1 limit2:Value} {H:AH} {R:Value→AH→Prop} (h:g157 q0 n1 limit2 H R):FN Tryz.prog 157 [q0,n1,limit2] H R:=
  FN.of_XM (ms:=[(4,[7,11])]) qbs (cast (by kernel_rfl) h)
def g158 (a0 n1:Value) (H:AH) (R:Value→AH→Prop):Prop:=
 @loopV2 (nv 1) (nv 0) H ⟨fun out5 v8 H1 K1 =>
 @qbb (xbin .lss 0 v8 n1) ⟨fun v9 =>
 @qbq v9 ⟨fun q=>if q=true then @qbb (xbin .mul 0 out5 a0) ⟨fun v12 =>
 @qbb (xbin .add 0 v8 (nv 1)) ⟨fun v13 =>
 K1 v12 v13 H1⟩⟩ else
 R out5 H1⟩⟩⟩
theorem g158_of {a0 n1:Value} {H:AH} {R:Value→AH→Prop} (h:g158 a0 n1 H R):FN Tryz.prog 158 [a0,n1] H R:=
  FN.of_XM (ms:=[(4,[5,8])]) qbs (cast (by kernel_rfl) h)
def g160 (a0:Value) (H:AH) (R:Value→AH→Prop):Prop:=
 @letH (H++[.cells (qbn a0) 70 none false]) ⟨fun H1 =>
 @qbb (qbc (.fld 1) [H]) ⟨fun v3 =>
 @qbb (qbh none H1 [v3]) ⟨fun v4 =>
 @qbb (xbin .geq 0 v4 (nv 1)) ⟨fun v5 =>
 @qbg (asB v5) (fun J1=>@qbb (qbc (.fld 1) [H]) ⟨fun v7 =>
 J1 v7 H1⟩) H1 ⟨fun v7a H2 =>
 @qbg (asB v5) (fun J2=>@qbb (qbh none H2 [v7a]) ⟨fun v8 =>
 J2 v8 H2⟩) H2 ⟨fun v8a H3 =>
 @qbg (asB v5) (fun J3=>@qbb (xbin .leq 0 v8a (nv 4611686018427387904)) ⟨fun v9 =>
 J3 v9 H3⟩) H3 ⟨fun v9a H4 =>
 @qb1 v5 v9a (.bool false) ⟨fun v10 =>
 @qbg (asB v10) (fun J4=>@qbb (qbc (.fld 0) [H]) ⟨fun v12 =>
 J4 v12 H4⟩) H4 ⟨fun v12a H5 =>
 @qbg (asB v10) (fun J5=>@qbb (qbh none H5 [v12a]) ⟨fun v13 =>
 J5 v13 H5⟩) H5 ⟨fun v13a H6 =>
 @qbg (asB v10) (fun J6=>@qbb (xbin .geq 0 v13a (.int .i64 (-4611686018427387904))) ⟨fun v14 =>
 J6 v14 H6⟩) H6 ⟨fun v14a H7 =>
 @qb1 v10 v14a (.bool false) ⟨fun v15 =>
 @qbg (asB v15) (fun J7=>@qbb (qbc (.fld 0) [H]) ⟨fun v17 =>
 J7 v17 H7⟩) H7 ⟨fun v17a H8 =>
 @qbg (asB v15) (fun J8=>@qbb (qbh none H8 [v17a]) ⟨fun v18 =>
 J8 v18 H8⟩) H8 ⟨fun v18a H9 =>
 @qbg (asB v15) (fun J9=>@qbb (xbin .leq 0 v18a (nv 4611686018427387904)) ⟨fun v19 =>
 J9 v19 H9⟩) H9 ⟨fun v19a H10 =>
 @qb1 v15 v19a (.bool false) ⟨fun v20 =>
 @qbg (asB v20) (fun J10=>@qbb (qbc (.fld 0) [H]) ⟨fun v22 =>
 J10 v22 H10⟩) H10 ⟨fun v22a H11 =>
 @qbg (asB v20) (fun J11=>@qbb (qbh none H11 [v22a]) ⟨fun v23 =>
 J11 v23 H11⟩) H11 ⟨fun v23a H12 =>
 @qbg (asB v20) (fun J12=>@qbb (qbc (.fld 1) [H]) ⟨fun v25 =>
 J12 v25 H12⟩) H12 ⟨fun v25a H13 =>
 @qbg (asB v20) (fun J13=>@qbb (qbh none H13 [v25a]) ⟨fun v26 =>
 J13 v26 H13⟩) H13 ⟨fun v26a H14=>@letD (bif (asB v20) then⟨23,none,[v25a],v26a⟩ :: [] else []) ⟨fun D1 =>
 @qbg (asB v20) (fun J14=>@qbb (qbc (.conv .u64) [v26a]) ⟨fun v27 =>
 J14 v27 H14⟩) H14 ⟨fun v27a H15 =>
 @qbg (asB v20) (fun J15=>@cG 191 [v23a] H15 ⟨fun v24 H16 =>
 (chkX [23] D1 H16∧J15 v24 H16)⟩) H15 ⟨fun v24a H17 =>
 @qbg (asB v20) (fun J16=>@qb5 (qbv [(.int .u64 0),(.int .u64 0)] [(0,1),(1,1)] [v24a,v27a]) ⟨fun cv28=>@letH (H17++[.cells cv28 176 none false]) ⟨fun H18 =>
 J16 (.slice (some ⟨H17.length,0,none⟩) 2 2) H18⟩⟩) H17 ⟨fun v28a H19 =>
 @qbg (asB v20) (fun J17=>@cG 190 [v28a] H19 ⟨fun v29 H20 =>
 J17 v29 H20⟩) H19 ⟨fun v29a H21 =>
 @qbg (asB v20) (fun J18=>@qbb (xbin .eql 0 v29a (.int .u64 1)) ⟨fun v30 =>
 J18 v30 H21⟩) H21 ⟨fun v30a H22 =>
 @qb1 v20 v30a (.bool false) ⟨fun v31 =>
 R v31 H22⟩⟩⟩⟩⟩⟩⟩⟩⟩⟩⟩⟩⟩⟩⟩⟩⟩⟩⟩⟩⟩⟩⟩⟩⟩⟩⟩
theorem g160_of {a0:Value} {H:AH} {R:Value→AH→Prop} (h:g160 a0 H R):FN Tryz.prog 160 [a0] H R:=
  FN.of_XM (ms:=[]) qbs (cast (by kernel_rfl) h)
def g162 (f0 e1:Value) (H:AH) (R:Value→AH→Prop):Prop:=
 @letH (H++[.cells (qbn f0) 70 none false]) ⟨fun H1 =>
 @letH (H1++[.cells [nv 0,nv 0] 70 none false]) ⟨fun H2 =>
 @joinV0 (fun J1=>@qbb (xbin .neq 0 e1 (nv 0)) ⟨fun v6 =>
 @qbq v6 ⟨fun q=>if q=true then @qb5 (qbv [] [] []) ⟨fun v7 =>
 @qbb (qbc .bad [(.agg v7.toArray)]) ⟨fun v8 =>
 @qbb (qbc .bad [v8]) ⟨fun _v =>
 J1 H2⟩⟩⟩ else
 J1 H2⟩⟩) ⟨fun H3 =>
 @qbb (qbh (some 2) H3 [H]) ⟨fun v9 =>
 @qbt (xact (.st 2) H3 [H1,v9]) ⟨fun _v H4 =>
 @qbb (qbh (some 2) H4 [H1]) ⟨fun r0=>R r0 H4⟩⟩⟩⟩⟩⟩
theorem g162_of {f0 e1:Value} {H:AH} {R:Value→AH→Prop} (h:g162 f0 e1 H R):FN Tryz.prog 162 [f0,e1] H R:=
  FN.of_XM (ms:=[(1,[])]) qbs (cast (by kernel_rfl) h)
def g163 (a0 b1:Value) (H:AH) (R:Value→AH→Prop):Prop:=
 @letH (H++[.cells (qbn a0) 70 none false]) ⟨fun H1 =>
 @letH (H1++[.cells (qbn b1) 70 none false]) ⟨fun H2 =>
 @letH (H2++[.cells [nv 0,nv 0] 70 none false]) ⟨fun H3 =>
 @qbb (qbc (.fld 1) [H]) ⟨fun v9 =>
 @qbb (qbh none H3 [v9]) ⟨fun v10 =>
 @qbb (qbc (.conv .u64) [v10]) ⟨fun v11 =>
 @qbb (qbc (.fld 1) [H1]) ⟨fun v12 =>
 @qbb (qbh none H3 [v12]) ⟨fun v13 =>
 @qbb (qbc (.conv .u64) [v13]) ⟨fun v14 =>
 @qb5 (qbv [(.int .u64 0),(.int .u64 0)] [(0,1),(1,1)] [v11,v14]) ⟨fun cv15=>@letH (H3++[.cells cv15 176 none false]) ⟨fun H4 =>
 @cG 190 [(.slice (some ⟨H3.length,0,none⟩) 2 2)] H4 ⟨fun v16 H5 =>
 @qbb (qbc (.fld 0) [H]) ⟨fun v17 =>
 @qbb (qbh none H5 [v17]) ⟨fun v18 =>
 @qbb (qbc (.fld 1) [H1]) ⟨fun v19 =>
 @qbb (qbh none H5 [v19]) ⟨fun v20 =>
 @qbb (qbc (.conv .i64) [v16]) ⟨fun v22 =>
 @qbb (xbin .quo 0 v20 v22) ⟨fun v23 =>
 @qbb (qbc (.fld 0) [H1]) ⟨fun v25 =>
 @qbb (qbh none H5 [v25]) ⟨fun v26 =>
 @qbb (qbc (.fld 1) [H]) ⟨fun v27 =>
 @qbb (qbh none H5 [v27]) ⟨fun v28 =>
 @qbb (qbc (.conv .i64) [v16]) ⟨fun v30 =>
 @qbb (xbin .quo 0 v28 v30) ⟨fun v31 =>
 @letH (H5++[.cells [(.bool false),(.int .u64 0),(.int .u64 0)] 181 none false]) ⟨fun H6 =>
 @cG 195 [v18,v23] H6 ⟨fun v24 H7 =>
 (chkX [11,9] (⟨11,none,[v27],v28⟩ :: (⟨9,none,[v25],v26⟩ :: [])) H7∧@cG 195 [v26,v31] H7 ⟨fun v32 H8 =>
 @cG 196 [v24,v32] H8 ⟨fun v33 H9 =>
 @qbt (xact (.st 3) H9 [H5,v33]) ⟨fun _v H10 =>
 @qbb (qbh (some 3) H10 [H5]) ⟨fun v34 =>
 @cG 197 [v34] H10 ⟨fun v35 H11 =>
 @qbq v35 ⟨fun q=>if q=true then @cG 189 [] H11 ⟨fun v36 H12 =>
 @qbb (qbc (.ext 0) [v36]) ⟨fun v37 =>
 @qbb (qbc (.ext 1) [v36]) ⟨fun v38 =>
 @qbt (xact (.st 2) H12 [H2,v37]) ⟨fun _v H13 =>
 @qbb (qbh (some 2) H13 [H2]) ⟨fun r0=>R (.tuple [r0,v38].toArray) H13⟩⟩⟩⟩⟩ else
 @qbb (qbc (.fld 1) [H5]) ⟨fun v39 =>
 @qbb (qbh none H11 [v39]) ⟨fun v40 =>
 @qbb (qbc (.fld 2) [H5]) ⟨fun v41 =>
 @qbb (qbh none H11 [v41]) ⟨fun v42 =>
 @cG 198 [v40,v42,v16] H11 ⟨fun v44 H14 =>
 @qb5 (qbv [(.int .u64 0),(.int .u64 0)] [(0,1),(1,1)] [v44,v16]) ⟨fun cv46=>@letH (H14++[.cells cv46 176 none false]) ⟨fun H15 =>
 @cG 190 [(.slice (some ⟨H14.length,0,none⟩) 2 2)] H15 ⟨fun v47 H16 =>
 @qbb (qbh (some 3) H16 [H5]) ⟨fun v48 =>
 @qbb (qbc (.fld 1) [H]) ⟨fun v51 =>
 @qbb (qbh none H16 [v51]) ⟨fun v52 =>
 @qbb (qbc (.conv .i64) [v16]) ⟨fun v54 =>
 @qbb (xbin .quo 0 v52 v54) ⟨fun v55 =>
 @qbb (qbc (.fld 1) [H1]) ⟨fun v56 =>
 @qbb (qbh none H16 [v56]) ⟨fun v57 =>
 @qbb (qbc (.conv .i64) [v47]) ⟨fun v59 =>
 @qbb (xbin .quo 0 v57 v59) ⟨fun v60 =>
 @cG 199 [v48,v47] H16 ⟨fun v50 H17 =>
 (chkX [9,4] (⟨9,none,[v56],v57⟩ :: (⟨4,none,[v51],v52⟩ :: [])) H17∧@cG 195 [v55,v60] H17 ⟨fun v61 H18 =>
 @cG 192 [v50,v61] H18 ⟨fun v62 H19 =>
 @qbb (qbc (.ext 0) [v62]) ⟨fun v63 =>
 @qbb (qbc (.ext 1) [v62]) ⟨fun v64 =>
 @qbt (xact (.st 2) H19 [H2,v63]) ⟨fun _v H20 =>
 @qbb (qbh (some 2) H20 [H2]) ⟨fun r0=>R (.tuple [r0,v64].toArray) H20⟩⟩⟩⟩⟩⟩)⟩⟩⟩⟩⟩⟩⟩⟩⟩⟩⟩⟩⟩⟩⟩⟩⟩⟩⟩⟩⟩⟩⟩⟩)⟩⟩⟩⟩⟩⟩⟩⟩⟩⟩⟩⟩⟩⟩⟩⟩⟩⟩⟩⟩⟩⟩⟩⟩⟩⟩
theorem g163_of {a0 b1:Value} {H:AH} {R:Value→AH→Prop} (h:g163 a0 b1 H R):FN Tryz.prog 163 [a0,b1] H R:=
  FN.of_XM (ms:=[]) qbs (cast (by kernel_rfl) h)
def g164 (a0 b1:Value) (H:AH) (R:Value→AH→Prop):Prop:=
 @letH (H++[.cells (qbn a0) 70 none false]) ⟨fun H1 =>
 @letH (H1++[.cells (qbn b1) 70 none false]) ⟨fun H2 =>
 @letH (H2++[.cells [nv 0,nv 0] 70 none false]) ⟨fun H3 =>
 @qbb (qbc (.fld 0) [H]) ⟨fun v8 =>
 @qbb (qbh none H3 [v8]) ⟨fun v9 =>
 @qbb (xbin .eql 0 v9 (nv 0)) ⟨fun v10 =>
 @qbg (asNB v10) (fun J1=>@qbb (qbc (.fld 0) [H1]) ⟨fun v12 =>
 J1 v12 H3⟩) H3 ⟨fun v12a H4 =>
 @qbg (asNB v10) (fun J2=>@qbb (qbh none H4 [v12a]) ⟨fun v13 =>
 J2 v13 H4⟩) H4 ⟨fun v13a H5 =>
 @qbg (asNB v10) (fun J3=>@qbb (xbin .eql 0 v13a (nv 0)) ⟨fun v14 =>
 J3 v14 H5⟩) H5 ⟨fun v14a H6 =>
 @qb1 v10 (.bool true) v14a ⟨fun v15 =>
 @qbq v15 ⟨fun q=>if q=true then @cG 189 [] H6 ⟨fun v16 H7 =>
 @qbb (qbc (.ext 0) [v16]) ⟨fun v17 =>
 @qbb (qbc (.ext 1) [v16]) ⟨fun v18 =>
 @qbt (xact (.st 2) H7 [H2,v17]) ⟨fun _v H8 =>
 @qbb (qbh (some 2) H8 [H2]) ⟨fun r0=>R (.tuple [r0,v18].toArray) H8⟩⟩⟩⟩⟩ else
 @qbb (qbc (.fld 0) [H]) ⟨fun v19 =>
 @qbb (qbh none H6 [v19]) ⟨fun v20 =>
 @qbb (qbc (.fld 1) [H1]) ⟨fun v22 =>
 @qbb (qbh none H6 [v22]) ⟨fun v23 =>
 @qbb (qbc (.conv .u64) [v23]) ⟨fun v24 =>
 @qbb (qbc (.fld 0) [H1]) ⟨fun v28 =>
 @qbb (qbh none H6 [v28]) ⟨fun v29 =>
 @qbb (qbc (.fld 1) [H]) ⟨fun v31 =>
 @qbb (qbh none H6 [v31]) ⟨fun v32 =>
 @qbb (qbc (.conv .u64) [v32]) ⟨fun v33 =>
 @cG 191 [v20] H6 ⟨fun v21 H9 =>
 (chkX [13,10,4] (⟨13,none,[v31],v32⟩ :: (⟨10,none,[v28],v29⟩ :: (⟨4,none,[v22],v23⟩ :: []))) H9∧@qb5 (qbv [(.int .u64 0),(.int .u64 0)] [(0,1),(1,1)] [v21,v24]) ⟨fun cv25=>@letH (H9++[.cells cv25 176 none false]) ⟨fun H10 =>
 (chkX [13,10] (⟨13,none,[v31],v32⟩ :: (⟨10,none,[v28],v29⟩ :: (⟨4,none,[v22],v23⟩ :: []))) H10∧@cG 190 [(.slice (some ⟨H9.length,0,none⟩) 2 2)] H10 ⟨fun v26 H11 =>
 (chkX [13,10] (⟨13,none,[v31],v32⟩ :: (⟨10,none,[v28],v29⟩ :: (⟨4,none,[v22],v23⟩ :: []))) H11∧@qbb (qbc (.conv .i64) [v26]) ⟨fun v27 =>
 @cG 191 [v29] H11 ⟨fun v30 H12 =>
 (chkX [13] (⟨13,none,[v31],v32⟩ :: (⟨10,none,[v28],v29⟩ :: (⟨4,none,[v22],v23⟩ :: []))) H12∧@qb5 (qbv [(.int .u64 0),(.int .u64 0)] [(0,1),(1,1)] [v30,v33]) ⟨fun cv34=>@letH (H12++[.cells cv34 176 none false]) ⟨fun H13 =>
 @cG 190 [(.slice (some ⟨H12.length,0,none⟩) 2 2)] H13 ⟨fun v35 H14 =>
 @qbb (qbc (.conv .i64) [v35]) ⟨fun v36 =>
 @qbb (qbc (.fld 0) [H]) ⟨fun v37 =>
 @qbb (qbh none H14 [v37]) ⟨fun v38 =>
 @qbb (xbin .quo 0 v38 v27) ⟨fun v40 =>
 @qbb (qbc (.fld 0) [H1]) ⟨fun v41 =>
 @qbb (qbh none H14 [v41]) ⟨fun v42 =>
 @qbb (xbin .quo 0 v42 v36) ⟨fun v44 =>
 @qbb (qbc (.fld 1) [H]) ⟨fun v46 =>
 @qbb (qbh none H14 [v46]) ⟨fun v47 =>
 @qbb (xbin .quo 0 v47 v36) ⟨fun v49 =>
 @qbb (qbc (.fld 1) [H1]) ⟨fun v50 =>
 @qbb (qbh none H14 [v50]) ⟨fun v51 =>
 @qbb (xbin .quo 0 v51 v27) ⟨fun v53 =>
 @cG 195 [v40,v44] H14 ⟨fun v45 H15 =>
 (chkX [14,10] (⟨14,none,[v50],v51⟩ :: (⟨10,none,[v46],v47⟩ :: [])) H15∧@cG 195 [v49,v53] H15 ⟨fun v54 H16 =>
 @cG 192 [v45,v54] H16 ⟨fun v55 H17 =>
 @qbb (qbc (.ext 0) [v55]) ⟨fun v56 =>
 @qbb (qbc (.ext 1) [v55]) ⟨fun v57 =>
 @qbt (xact (.st 2) H17 [H2,v56]) ⟨fun _v H18 =>
 @qbb (qbh (some 2) H18 [H2]) ⟨fun r0=>R (.tuple [r0,v57].toArray) H18⟩⟩⟩⟩⟩⟩)⟩⟩⟩⟩⟩⟩⟩⟩⟩⟩⟩⟩⟩⟩⟩⟩⟩)⟩⟩)⟩)⟩⟩)⟩⟩⟩⟩⟩⟩⟩⟩⟩⟩⟩⟩⟩⟩⟩⟩⟩⟩⟩⟩⟩⟩
theorem g164_of {a0 b1:Value} {H:AH} {R:Value→AH→Prop} (h:g164 a0 b1 H R):FN Tryz.prog 164 [a0,b1] H R:=
  FN.of_XM (ms:=[]) qbs (cast (by kernel_rfl) h)
def g165 (a0 b1:Value) (H:AH) (R:Value→AH→Prop):Prop:=
 @letH (H++[.cells (qbn a0) 70 none false]) ⟨fun H1 =>
 @letH (H1++[.cells (qbn b1) 70 none false]) ⟨fun H2 =>
 @letH (H2++[.cells [nv 0,nv 0] 70 none false]) ⟨fun H3 =>
 @qbb (qbc (.fld 0) [H1]) ⟨fun v7 =>
 @qbb (qbh none H3 [v7]) ⟨fun v8 =>
 @qbb (xbin .eql 0 v8 (nv 0)) ⟨fun v9 =>
 @qbq v9 ⟨fun q=>if q=true then @qb5 (qbv [nv 0,nv 0] [] []) ⟨fun v10 =>
 @qbt (xact (.st 2) H3 [H2,(.agg v10.toArray)]) ⟨fun _v H4 =>
 @qbb (qbh (some 2) H4 [H2]) ⟨fun r0=>R (.tuple [r0,nv 3].toArray) H4⟩⟩⟩ else
 @qbb (qbc (.fld 0) [H1]) ⟨fun v12 =>
 @qbb (qbh none H3 [v12]) ⟨fun v13 =>
 @qbb (xbin .lss 0 v13 (nv 0)) ⟨fun v14 =>
 @qbq v14 ⟨fun q=>if q=true then @qbb (qbh (some 2) H3 [H]) ⟨fun v15 =>
 @qbb (qbc (.fld 1) [H1]) ⟨fun v16 =>
 @qbb (qbh none H3 [v16]) ⟨fun v17 =>
 @qbb (eun .neg v17) ⟨fun v18 =>
 @qbb (qbc (.fld 0) [H1]) ⟨fun v19 =>
 @qbb (qbh none H3 [v19]) ⟨fun v20 =>
 @qbb (eun .neg v20) ⟨fun v21 =>
 @qb5 (qbv [nv 0,nv 0] [(0,1),(1,1)] [v18,v21]) ⟨fun v22 =>
 @cG 164 [v15,(.agg v22.toArray)] H3 ⟨fun v23 H5 =>
 @qbb (qbc (.ext 0) [v23]) ⟨fun v24 =>
 @qbb (qbc (.ext 1) [v23]) ⟨fun v25 =>
 @qbt (xact (.st 2) H5 [H2,v24]) ⟨fun _v H6 =>
 @qbb (qbh (some 2) H6 [H2]) ⟨fun r0=>R (.tuple [r0,v25].toArray) H6⟩⟩⟩⟩⟩⟩⟩⟩⟩⟩⟩⟩⟩ else
 @qbb (qbh (some 2) H3 [H]) ⟨fun v26 =>
 @qbb (qbc (.fld 1) [H1]) ⟨fun v27 =>
 @qbb (qbh none H3 [v27]) ⟨fun v28 =>
 @qbb (qbc (.fld 0) [H1]) ⟨fun v29 =>
 @qbb (qbh none H3 [v29]) ⟨fun v30 =>
 @qb5 (qbv [nv 0,nv 0] [(0,1),(1,1)] [v28,v30]) ⟨fun v31 =>
 @cG 164 [v26,(.agg v31.toArray)] H3 ⟨fun v32 H7 =>
 @qbb (qbc (.ext 0) [v32]) ⟨fun v33 =>
 @qbb (qbc (.ext 1) [v32]) ⟨fun v34 =>
 @qbt (xact (.st 2) H7 [H2,v33]) ⟨fun _v H8 =>
 @qbb (qbh (some 2) H8 [H2]) ⟨fun r0=>R (.tuple [r0,v34].toArray) H8⟩⟩⟩⟩⟩⟩⟩⟩⟩⟩⟩⟩⟩⟩⟩⟩⟩⟩⟩⟩⟩⟩
theorem g165_of {a0 b1:Value} {H:AH} {R:Value→AH→Prop} (h:g165 a0 b1 H R):FN Tryz.prog 165 [a0,b1] H R:=
  FN.of_XM (ms:=[]) qbs (cast (by kernel_rfl) h)
def g189 (H:AH) (R:Value→AH→Prop):Prop:=
 @letH (H++[.cells [nv 0,nv 0] 70 none false]) ⟨fun H1 =>
 @qb5 (qbv [nv 0,nv 0] [(1,1)] [nv 1]) ⟨fun v2 =>
 @qbt (xact (.st 2) H1 [H,(.agg v2.toArray)]) ⟨fun _v H2 =>
 @qbb (qbh (some 2) H2 [H]) ⟨fun r0=>R (.tuple [r0,nv 0].toArray) H2⟩⟩⟩⟩
theorem g189_of {H:AH} {R:Value→AH→Prop} (h:g189  H R):FN Tryz.prog 189 [] H R:=
  FN.of_XM (ms:=[]) qbs (cast (by kernel_rfl) h)
def g190 (l0:Value) (H:AH) (R:Value→AH→Prop):Prop:=
 @qbb (qbc (.ixS 1) [l0,nv 0]) ⟨fun v7 =>
 @qbb (qbh none H [v7]) ⟨fun v8 =>
 @qbb (qbc (.slS 1 true false) [l0,nv 1]) ⟨fun v10 =>
 @qbb (qbc .lenS [v10]) ⟨fun v11 =>
 @loopV2 v8 (nv 0) H ⟨fun a3 v12 H1 K1 =>
 @qbb (xbin .lss 0 v12 v11) ⟨fun v13 =>
 @qbq v13 ⟨fun q=>if q=true then @qbb (qbc (.ixS 1) [v10,v12]) ⟨fun v14 =>
 @qbb (qbh none H1 [v14]) ⟨fun v15 =>
 @loopV2 a3 v15 H1 ⟨fun a3a b5 H2 K2 =>
 @qbb (xbin .gtr 0 b5 (.int .u64 0)) ⟨fun v17 =>
 @qbq v17 ⟨fun q=>if q=true then @qbb (xbin .rem 0 a3a b5) ⟨fun v21 =>
 K2 b5 v21 H2⟩ else
 @qbb (xbin .add 0 v12 (nv 1)) ⟨fun v22 =>
 K1 a3a v22 H2⟩⟩⟩⟩⟩⟩ else
 R a3 H1⟩⟩⟩⟩⟩⟩⟩
theorem g190_of {l0:Value} {H:AH} {R:Value→AH→Prop} (h:g190 l0 H R):FN Tryz.prog 190 [l0] H R:=
  FN.of_XM (ms:=[(4,[3,12]),(9,[3,5])]) qbs (cast (by kernel_rfl) h)
def g191 (n0:Value) (H:AH) (R:Value→AH→Prop):Prop:=
 @qbb (xbin .lss 0 n0 (nv 0)) ⟨fun v4 =>
 @qbq v4 ⟨fun q=>if q=true then @qbb (qbc (.conv .u64) [n0]) ⟨fun v6 =>
 @qbb (eun .neg v6) ⟨fun v7 =>
 R v7 H⟩⟩ else
 @qbb (qbc (.conv .u64) [n0]) ⟨fun v9 =>
 R v9 H⟩⟩⟩
theorem g191_of {n0:Value} {H:AH} {R:Value→AH→Prop} (h:g191 n0 H R):FN Tryz.prog 191 [n0] H R:=
  FN.of_XM (ms:=[]) qbs (cast (by kernel_rfl) h)
def g192 (n0 d1:Value) (H:AH) (R:Value→AH→Prop):Prop:=
 @letH (H++[.cells (qbn n0) 181 none false]) ⟨fun H1 =>
 @letH (H1++[.cells (qbn d1) 181 none false]) ⟨fun H2 =>
 @letH (H2++[.cells [nv 0,nv 0] 70 none false]) ⟨fun H3 =>
 @qbb (qbh (some 3) H3 [H]) ⟨fun v11 =>
 @cG 211 [v11] H3 ⟨fun v12 H4 =>
 @qbb (qbc (.ext 0) [v12]) ⟨fun v13 =>
 @qbb (qbc (.ext 1) [v12]) ⟨fun v14 =>
 @qbb (qbh (some 3) H4 [H1]) ⟨fun v16 =>
 @cG 211 [v16] H4 ⟨fun v17 H5 =>
 @qbb (qbc (.ext 0) [v17]) ⟨fun v18 =>
 @qbb (qbc (.ext 1) [v17]) ⟨fun v19 =>
 @qbb (eun .not v14) ⟨fun v21 =>
 @qbg (asNB v21) (fun J1=>J1 v19 H5) H5 ⟨fun v23 H6 =>
 @qbg (asNB v21) (fun J2=>@qbb (eun .not v23) ⟨fun v24 =>
 J2 v24 H6⟩) H6 ⟨fun v24a H7 =>
 @qb1 v21 (.bool true) v24a ⟨fun v25 =>
 @qbq v25 ⟨fun q=>if q=true then @qb5 (qbv [nv 0,nv 0] [] []) ⟨fun v26 =>
 @qbt (xact (.st 2) H7 [H2,(.agg v26.toArray)]) ⟨fun _v H8 =>
 @qbb (qbh (some 2) H8 [H2]) ⟨fun r0=>R (.tuple [r0,nv 2].toArray) H8⟩⟩⟩ else
 @qb5 (qbv [nv 0,nv 0] [(0,1),(1,1)] [v13,v18]) ⟨fun v29 =>
 @qbt (xact (.st 2) H7 [H2,(.agg v29.toArray)]) ⟨fun _v H9 =>
 @qbb (qbh (some 2) H9 [H2]) ⟨fun r0=>R (.tuple [r0,nv 0].toArray) H9⟩⟩⟩⟩⟩⟩⟩⟩⟩⟩⟩⟩⟩⟩⟩⟩⟩⟩⟩
theorem g192_of {n0 d1:Value} {H:AH} {R:Value→AH→Prop} (h:g192 n0 d1 H R):FN Tryz.prog 192 [n0,d1] H R:=
  FN.of_XM (ms:=[]) qbs (cast (by kernel_rfl) h)
def g193 (x0 y1:Value) (H:AH) (R:Value→AH→Prop):Prop:=
 @qbb (xbin .and 0 x0 (.int .u64 4294967295)) ⟨fun v15 =>
 @qbb (xbin .shr 0 x0 (.int .u64 32)) ⟨fun v17 =>
 @qbb (xbin .and 0 y1 (.int .u64 4294967295)) ⟨fun v19 =>
 @qbb (xbin .shr 0 y1 (.int .u64 32)) ⟨fun v21 =>
 @qbb (xbin .mul 0 v15 v19) ⟨fun v24 =>
 @qbb (xbin .mul 0 v17 v19) ⟨fun v27 =>
 @qbb (xbin .shr 0 v24 (.int .u64 32)) ⟨fun v29 =>
 @qbb (xbin .add 0 v27 v29) ⟨fun v30 =>
 @qbb (xbin .and 0 v30 (.int .u64 4294967295)) ⟨fun v32 =>
 @qbb (xbin .shr 0 v30 (.int .u64 32)) ⟨fun v34 =>
 @qbb (xbin .mul 0 v15 v21) ⟨fun v38 =>
 @qbb (xbin .add 0 v32 v38) ⟨fun v39 =>
 @qbb (xbin .mul 0 v17 v21) ⟨fun v42 =>
 @qbb (xbin .add 0 v42 v34) ⟨fun v44 =>
 @qbb (xbin .shr 0 v39 (.int .u64 32)) ⟨fun v46 =>
 @qbb (xbin .add 0 v44 v46) ⟨fun v47 =>
 @qbb (xbin .mul 0 x0 y1) ⟨fun v50 =>
 R (.tuple [v47,v50].toArray) H⟩⟩⟩⟩⟩⟩⟩⟩⟩⟩⟩⟩⟩⟩⟩⟩⟩
theorem g193_of {x0 y1:Value} {H:AH} {R:Value→AH→Prop} (h:g193 x0 y1 H R):FN Tryz.prog 193 [x0,y1] H R:=
  FN.of_XM (ms:=[]) qbs (cast (by kernel_rfl) h)
def g195 (a0 b1:Value) (H:AH) (R:Value→AH→Prop):Prop:=
 @letH (H++[.cells [(.bool false),(.int .u64 0),(.int .u64 0)] 181 none false]) ⟨fun H1 =>
 @cG 191 [a0] H1 ⟨fun v9 H2 =>
 @cG 191 [b1] H2 ⟨fun v11 H3 =>
 @cG 193 [v9,v11] H3 ⟨fun v12 H4 =>
 @qbb (qbc (.ext 0) [v12]) ⟨fun v13 =>
 @qbb (qbc (.ext 1) [v12]) ⟨fun v14 =>
 @qbb (xbin .lss 0 a0 (nv 0)) ⟨fun v16 =>
 @qbb (xbin .lss 0 b1 (nv 0)) ⟨fun v18 =>
 @qbb (xbin .neq 1 v16 v18) ⟨fun v19 =>
 @qb5 (qbv [(.bool false),(.int .u64 0),(.int .u64 0)] [(0,1),(1,1),(2,1)] [v19,v13,v14]) ⟨fun v22 =>
 @qbt (xact (.st 3) H4 [H,(.agg v22.toArray)]) ⟨fun _v H5 =>
 @qbb (qbh (some 3) H5 [H]) ⟨fun r0=>R r0 H5⟩⟩⟩⟩⟩⟩⟩⟩⟩⟩⟩⟩
theorem g195_of {a0 b1:Value} {H:AH} {R:Value→AH→Prop} (h:g195 a0 b1 H R):FN Tryz.prog 195 [a0,b1] H R:=
  FN.of_XM (ms:=[]) qbs (cast (by kernel_rfl) h)
def g196 (w0 v1:Value) (H:AH) (R:Value→AH→Prop):Prop:=
 @letH (H++[.cells (qbn w0) 181 none false]) ⟨fun H1 =>
 @letH (H1++[.cells (qbn v1) 181 none false]) ⟨fun H2 =>
 @letH (H2++[.cells [(.bool false),(.int .u64 0),(.int .u64 0)] 181 none false]) ⟨fun H3 =>
 @qbb (qbc (.fld 0) [H]) ⟨fun v13 =>
 @qbb (qbh none H3 [v13]) ⟨fun v14 =>
 @qbb (qbc (.fld 0) [H1]) ⟨fun v15 =>
 @qbb (qbh none H3 [v15]) ⟨fun v16 =>
 @qbb (xbin .eql 1 v14 v16) ⟨fun v17 =>
 @qbq v17 ⟨fun q=>if q=true then @qbb (qbc (.fld 2) [H]) ⟨fun v19 =>
 @qbb (qbh none H3 [v19]) ⟨fun v20 =>
 @qbb (qbc (.fld 2) [H1]) ⟨fun v21 =>
 @qbb (qbh none H3 [v21]) ⟨fun v22 =>
 @qbb (qbc (.ext3 true 214) [(.func (.func 214) #[] #[]),v20,v22,(.int .u64 0)]) ⟨fun v23 =>
 @qbb (qbc (.ext 0) [v23]) ⟨fun v24 =>
 @qbb (qbc (.ext 1) [v23]) ⟨fun v25 =>
 @qbb (qbc (.fld 1) [H]) ⟨fun v27 =>
 @qbb (qbh none H3 [v27]) ⟨fun v28 =>
 @qbb (qbc (.fld 1) [H1]) ⟨fun v29 =>
 @qbb (qbh none H3 [v29]) ⟨fun v30 =>
 @qbb (qbc (.ext3 true 214) [(.func (.func 214) #[] #[]),v28,v30,v25]) ⟨fun v32 =>
 @qbb (qbc (.ext 0) [v32]) ⟨fun v33 =>
 @qbb (qbc (.ext 1) [v32]) ⟨fun v34 =>
 @qbb (qbc (.fld 0) [H]) ⟨fun v35 =>
 @qbb (qbh none H3 [v35]) ⟨fun v36 =>
 @qb5 (qbv [(.bool false),(.int .u64 0),(.int .u64 0)] [(0,1),(1,1),(2,1)] [v36,v33,v24]) ⟨fun v39 =>
 @qbt (xact (.st 3) H3 [H2,(.agg v39.toArray)]) ⟨fun _v H4 =>
 @qbb (qbh (some 3) H4 [H2]) ⟨fun r0=>R r0 H4⟩⟩⟩⟩⟩⟩⟩⟩⟩⟩⟩⟩⟩⟩⟩⟩⟩⟩⟩ else
 @joinV0 (fun J1=>@qbb (qbh (some 3) H3 [H]) ⟨fun v40 =>
 @qbb (qbh (some 3) H3 [H1]) ⟨fun v41 =>
 @cG 215 [v40,v41] H3 ⟨fun v42 H5 =>
 @qbb (eun .not v42) ⟨fun v43 =>
 @qbq v43 ⟨fun q=>if q=true then @qbb (qbh (some 3) H5 [H1]) ⟨fun v44 =>
 @qbb (qbh (some 3) H5 [H]) ⟨fun v45 =>
 @qbt (xact (.st 3) H5 [H,v44]) ⟨fun _v H6 =>
 @qbt (xact (.st 3) H6 [H1,v45]) ⟨fun _v H7 =>
 J1 H7⟩⟩⟩⟩ else
 J1 H5⟩⟩⟩⟩⟩) ⟨fun H8 =>
 @qbb (qbc (.fld 2) [H]) ⟨fun v47 =>
 @qbb (qbh none H8 [v47]) ⟨fun v48 =>
 @qbb (qbc (.fld 2) [H1]) ⟨fun v49 =>
 @qbb (qbh none H8 [v49]) ⟨fun v50 =>
 @qbb (qbc (.ext3 false 216) [(.func (.func 216) #[] #[]),v48,v50,(.int .u64 0)]) ⟨fun v51 =>
 @qbb (qbc (.ext 0) [v51]) ⟨fun v52 =>
 @qbb (qbc (.ext 1) [v51]) ⟨fun v53 =>
 @qbb (qbc (.fld 1) [H]) ⟨fun v55 =>
 @qbb (qbh none H8 [v55]) ⟨fun v56 =>
 @qbb (qbc (.fld 1) [H1]) ⟨fun v57 =>
 @qbb (qbh none H8 [v57]) ⟨fun v58 =>
 @qbb (qbc (.ext3 false 216) [(.func (.func 216) #[] #[]),v56,v58,v53]) ⟨fun v60 =>
 @qbb (qbc (.ext 0) [v60]) ⟨fun v61 =>
 @qbb (qbc (.ext 1) [v60]) ⟨fun v62 =>
 @qbb (qbc (.fld 0) [H]) ⟨fun v63 =>
 @qbb (qbh none H8 [v63]) ⟨fun v64 =>
 @qb5 (qbv [(.bool false),(.int .u64 0),(.int .u64 0)] [(0,1),(1,1),(2,1)] [v64,v61,v52]) ⟨fun v67 =>
 @qbt (xact (.st 3) H8 [H2,(.agg v67.toArray)]) ⟨fun _v H9 =>
 @qbb (qbh (some 3) H9 [H2]) ⟨fun r0=>R r0 H9⟩⟩⟩⟩⟩⟩⟩⟩⟩⟩⟩⟩⟩⟩⟩⟩⟩⟩⟩⟩⟩⟩⟩⟩⟩⟩⟩⟩⟩
theorem g196_of {w0 v1:Value} {H:AH} {R:Value→AH→Prop} (h:g196 w0 v1 H R):FN Tryz.prog 196 [w0,v1] H R:=
  FN.of_XM (ms:=[(6,[])]) qbs (cast (by kernel_rfl) h)
def g197 (w0:Value) (H:AH) (R:Value→AH→Prop):Prop:=
 @letH (H++[.cells (qbn w0) 181 none false]) ⟨fun H1 =>
 @qbb (qbc (.fld 1) [H]) ⟨fun v3 =>
 @qbb (qbh none H1 [v3]) ⟨fun v4 =>
 @qbb (xbin .eql 0 v4 (.int .u64 0)) ⟨fun v5 =>
 @qbg (asB v5) (fun J1=>@qbb (qbc (.fld 2) [H]) ⟨fun v7 =>
 J1 v7 H1⟩) H1 ⟨fun v7a H2 =>
 @qbg (asB v5) (fun J2=>@qbb (qbh none H2 [v7a]) ⟨fun v8 =>
 J2 v8 H2⟩) H2 ⟨fun v8a H3 =>
 @qbg (asB v5) (fun J3=>@qbb (xbin .eql 0 v8a (.int .u64 0)) ⟨fun v9 =>
 J3 v9 H3⟩) H3 ⟨fun v9a H4 =>
 @qb1 v5 v9a (.bool false) ⟨fun v10 =>
 R v10 H4⟩⟩⟩⟩⟩⟩⟩⟩
theorem g197_of {w0:Value} {H:AH} {R:Value→AH→Prop} (h:g197 w0 H R):FN Tryz.prog 197 [w0] H R:=
  FN.of_XM (ms:=[]) qbs (cast (by kernel_rfl) h)
def g198 (hi0 lo1 y2:Value) (H:AH) (R:Value→AH→Prop):Prop:=
 @qbb (xbin .rem 0 hi0 y2) ⟨fun v12 =>
 @cG 217 [v12,lo1,y2] H ⟨fun v15 H1 =>
 @qbb (qbc (.ext 0) [v15]) ⟨fun v16 =>
 @qbb (qbc (.ext 1) [v15]) ⟨fun v17 =>
 R v17 H1⟩⟩⟩⟩
theorem g198_of {hi0 lo1 y2:Value} {H:AH} {R:Value→AH→Prop} (h:g198 hi0 lo1 y2 H R):FN Tryz.prog 198 [hi0,lo1,y2] H R:=
  FN.of_XM (ms:=[]) qbs (cast (by kernel_rfl) h)
def g199 (w0 m1:Value) (H:AH) (R:Value→AH→Prop):Prop:=
 @letH (H++[.cells (qbn w0) 181 none false]) ⟨fun H1 =>
 @letH (H1++[.cells [(.bool false),(.int .u64 0),(.int .u64 0)] 181 none false]) ⟨fun H2 =>
 @qbb (qbc (.fld 1) [H]) ⟨fun v8 =>
 @qbb (qbh none H2 [v8]) ⟨fun v9 =>
 @qbb (xbin .rem 0 v9 m1) ⟨fun v11 =>
 @qbb (qbc (.fld 2) [H]) ⟨fun v12 =>
 @qbb (qbh none H2 [v12]) ⟨fun v13 =>
 @cG 217 [v11,v13,m1] H2 ⟨fun v15 H3 =>
 @qbb (qbc (.ext 0) [v15]) ⟨fun v16 =>
 @qbb (qbc (.ext 1) [v15]) ⟨fun v17 =>
 @qbb (qbc (.fld 0) [H]) ⟨fun v18 =>
 @qbb (qbh none H3 [v18]) ⟨fun v19 =>
 @qbb (qbc (.fld 1) [H]) ⟨fun v20 =>
 @qbb (qbh none H3 [v20]) ⟨fun v21 =>
 @qbb (xbin .quo 0 v21 m1) ⟨fun v23 =>
 @qb5 (qbv [(.bool false),(.int .u64 0),(.int .u64 0)] [(0,1),(1,1),(2,1)] [v19,v23,v16]) ⟨fun v25 =>
 @qbt (xact (.st 3) H3 [H1,(.agg v25.toArray)]) ⟨fun _v H4 =>
 @qbb (qbh (some 3) H4 [H1]) ⟨fun r0=>R r0 H4⟩⟩⟩⟩⟩⟩⟩⟩⟩⟩⟩⟩⟩⟩⟩⟩⟩⟩
theorem g199_of {w0 m1:Value} {H:AH} {R:Value→AH→Prop} (h:g199 w0 m1 H R):FN Tryz.prog 199 [w0,m1] H R:=
  FN.of_XM (ms:=[]) qbs (cast (by kernel_rfl) h)
def g211 (w0:Value) (H:AH) (R:Value→AH→Prop):Prop:=
 @letH (H++[.cells (qbn w0) 181 none false]) ⟨fun H1 =>
 @qbb (qbc (.fld 1) [H]) ⟨fun v4 =>
 @qbb (qbh none H1 [v4]) ⟨fun v5 =>
 @qbb (xbin .gtr 0 v5 (.int .u64 0)) ⟨fun v6 =>
 @qbg (asNB v6) (fun J1=>@qbb (qbc (.fld 2) [H]) ⟨fun v8 =>
 J1 v8 H1⟩) H1 ⟨fun v8a H2 =>
 @qbg (asNB v6) (fun J2=>@qbb (qbh none H2 [v8a]) ⟨fun v9 =>
 J2 v9 H2⟩) H2 ⟨fun v9a H3 =>
 @qbg (asNB v6) (fun J3=>@qbb (xbin .gtr 0 v9a (.int .u64 4611686018427387904)) ⟨fun v10 =>
 J3 v10 H3⟩) H3 ⟨fun v10a H4 =>
 @qb1 v6 (.bool true) v10a ⟨fun v11 =>
 @qbq v11 ⟨fun q=>if q=true then R (.tuple [nv 0,(.bool false)].toArray) H4 else
 @qbb (qbc (.fld 0) [H]) ⟨fun v12 =>
 @qbb (qbh none H4 [v12]) ⟨fun v13 =>
 @qbq v13 ⟨fun q=>if q=true then @qbb (qbc (.fld 2) [H]) ⟨fun v14 =>
 @qbb (qbh none H4 [v14]) ⟨fun v15 =>
 @qbb (qbc (.conv .i64) [v15]) ⟨fun v16 =>
 @qbb (eun .neg v16) ⟨fun v17 =>
 R (.tuple [v17,(.bool true)].toArray) H4⟩⟩⟩⟩ else
 @qbb (qbc (.fld 2) [H]) ⟨fun v18 =>
 @qbb (qbh none H4 [v18]) ⟨fun v19 =>
 @qbb (qbc (.conv .i64) [v19]) ⟨fun v20 =>
 R (.tuple [v20,(.bool true)].toArray) H4⟩⟩⟩⟩⟩⟩⟩⟩⟩⟩⟩⟩⟩⟩⟩
theorem g211_of {w0:Value} {H:AH} {R:Value→AH→Prop} (h:g211 w0 H R):FN Tryz.prog 211 [w0] H R:=
  FN.of_XM (ms:=[]) qbs (cast (by kernel_rfl) h)
def g213 (n0 k1:Value) (H:AH) (R:Value→AH→Prop):Prop:=
 @qbb (xbin .lss 0 k1 (nv 0)) ⟨fun v8 =>
 @qbg (asNB v8) (fun J1=>J1 k1 H) H ⟨fun v10 H1 =>
 @qbg (asNB v8) (fun J2=>J2 n0 H1) H1 ⟨fun v11 H2 =>
 @qbg (asNB v8) (fun J3=>@qbb (xbin .gtr 0 v10 v11) ⟨fun v12 =>
 J3 v12 H2⟩) H2 ⟨fun v12a H3 =>
 @qb1 v8 (.bool true) v12a ⟨fun v13 =>
 @qbq v13 ⟨fun q=>if q=true then R (nv 0) H3 else
 @qbb (xbin .sub 0 n0 k1) ⟨fun v17 =>
 @qbb (qbc .min2 [k1,v17]) ⟨fun v18 =>
 @loopV2 (nv 1) (nv 0) H3 ⟨fun out5 v19 H4 K4 =>
 @qbb (xbin .lss 0 v19 v18) ⟨fun v20 =>
 @qbq v20 ⟨fun q=>if q=true then @qbb (xbin .sub 0 n0 v19) ⟨fun v25 =>
 @qbb (xbin .mul 0 out5 v25) ⟨fun v26 =>
 @qbb (xbin .add 0 v19 (nv 1)) ⟨fun v28 =>
 @qbb (xbin .quo 0 v26 v28) ⟨fun v29 =>
 @qbb (xbin .add 0 v19 (nv 1)) ⟨fun v30 =>
 K4 v29 v30 H4⟩⟩⟩⟩⟩ else
 R out5 H4⟩⟩⟩⟩⟩⟩⟩⟩⟩⟩⟩
theorem g213_of {n0 k1:Value} {H:AH} {R:Value→AH→Prop} (h:g213 n0 k1 H R):FN Tryz.prog 213 [n0,k1] H R:=
  FN.of_XM (ms:=[(7,[5,19])]) qbs (cast (by kernel_rfl) h)
def g215 (w0 v1:Value) (H:AH) (R:Value→AH→Prop):Prop:=
 @letH (H++[.cells (qbn w0) 181 none false]) ⟨fun H1 =>
 @letH (H1++[.cells (qbn v1) 181 none false]) ⟨fun H2 =>
 @qbb (qbc (.fld 1) [H]) ⟨fun v5 =>
 @qbb (qbh none H2 [v5]) ⟨fun v6 =>
 @qbb (qbc (.fld 1) [H1]) ⟨fun v7 =>
 @qbb (qbh none H2 [v7]) ⟨fun v8 =>
 @qbb (xbin .gtr 0 v6 v8) ⟨fun v9 =>
 @qbg (asNB v9) (fun J1=>@qbb (qbc (.fld 1) [H]) ⟨fun v11 =>
 J1 v11 H2⟩) H2 ⟨fun v11a H3 =>
 @qbg (asNB v9) (fun J2=>@qbb (qbh none H3 [v11a]) ⟨fun v12 =>
 J2 v12 H3⟩) H3 ⟨fun v12a H4 =>
 @qbg (asNB v9) (fun J3=>@qbb (qbc (.fld 1) [H1]) ⟨fun v13 =>
 J3 v13 H4⟩) H4 ⟨fun v13a H5 =>
 @qbg (asNB v9) (fun J4=>@qbb (qbh none H5 [v13a]) ⟨fun v14 =>
 J4 v14 H5⟩) H5 ⟨fun v14a H6 =>
 @qbg (asNB v9) (fun J5=>@qbb (xbin .eql 0 v12a v14a) ⟨fun v15 =>
 J5 v15 H6⟩) H6 ⟨fun v15a H7 =>
 @qbg (asNB v9) (fun J6=>J6 v15a H7) H7 ⟨fun v16 H8 =>
 @qbg (asB v16) (fun J7=>@qbb (qbc (.fld 2) [H]) ⟨fun v17 =>
 J7 v17 H8⟩) H8 ⟨fun v17a H9 =>
 @qbg (asB v16) (fun J8=>@qbb (qbh none H9 [v17a]) ⟨fun v18 =>
 J8 v18 H9⟩) H9 ⟨fun v18a H10 =>
 @qbg (asB v16) (fun J9=>@qbb (qbc (.fld 2) [H1]) ⟨fun v19 =>
 J9 v19 H10⟩) H10 ⟨fun v19a H11 =>
 @qbg (asB v16) (fun J10=>@qbb (qbh none H11 [v19a]) ⟨fun v20 =>
 J10 v20 H11⟩) H11 ⟨fun v20a H12 =>
 @qbg (asB v16) (fun J11=>@qbb (xbin .geq 0 v18a v20a) ⟨fun v21 =>
 J11 v21 H12⟩) H12 ⟨fun v21a H13 =>
 @qbg (asNB v9) (fun J12=>@qb1 v16 v21a (.bool false) ⟨fun v22 =>
 J12 v22 H13⟩) H13 ⟨fun v22a H14 =>
 @qb1 v9 (.bool true) v22a ⟨fun v23 =>
 R v23 H14⟩⟩⟩⟩⟩⟩⟩⟩⟩⟩⟩⟩⟩⟩⟩⟩⟩⟩⟩⟩
theorem g215_of {w0 v1:Value} {H:AH} {R:Value→AH→Prop} (h:g215 w0 v1 H R):FN Tryz.prog 215 [w0,v1] H R:=
  FN.of_XM (ms:=[]) qbs (cast (by kernel_rfl) h)
def g217 (hi0 lo1 y2:Value) (H:AH) (R:Value→AH→Prop):Prop:=
 @joinV0 (fun J1=>@qbb (xbin .eql 0 y2 (.int .u64 0)) ⟨fun v20 =>
 @qbq v20 ⟨fun q=>if q=true then @qbb (qbc .bad []) ⟨fun v21 =>
 @qbb (qbc .bad [v21]) ⟨fun _v =>
 J1 H⟩⟩ else
 J1 H⟩⟩) ⟨fun H1 =>
 @joinV0 (fun J2=>@qbb (xbin .leq 0 y2 hi0) ⟨fun v24 =>
 @qbq v24 ⟨fun q=>if q=true then @qbb (qbc .bad []) ⟨fun v25 =>
 @qbb (qbc .bad [v25]) ⟨fun _v =>
 J2 H1⟩⟩ else
 J2 H1⟩⟩) ⟨fun H2 =>
 @qbb (xbin .eql 0 hi0 (.int .u64 0)) ⟨fun v27 =>
 @qbq v27 ⟨fun q=>if q=true then @qbb (xbin .quo 0 lo1 y2) ⟨fun v30 =>
 @qbb (xbin .rem 0 lo1 y2) ⟨fun v33 =>
 R (.tuple [v30,v33].toArray) H2⟩⟩ else
 @cG 221 [y2] H2 ⟨fun v35 H3 =>
 @qbb (qbc (.conv .u64) [v35]) ⟨fun v36 =>
 @qbb (xbin .shl 0 y2 v36) ⟨fun v39 =>
 @qbb (xbin .shr 0 v39 (.int .u64 32)) ⟨fun v41 =>
 @qbb (xbin .and 0 v39 (.int .u64 4294967295)) ⟨fun v43 =>
 @qbb (xbin .shl 0 hi0 v36) ⟨fun v46 =>
 @qbb (xbin .sub 0 (.int .u64 64) v36) ⟨fun v49 =>
 @qbb (xbin .shr 0 lo1 v49) ⟨fun v50 =>
 @qbb (xbin .or 0 v46 v50) ⟨fun v51 =>
 @qbb (xbin .shl 0 lo1 v36) ⟨fun v54 =>
 @qbb (xbin .shr 0 v54 (.int .u64 32)) ⟨fun v56 =>
 @qbb (xbin .and 0 v54 (.int .u64 4294967295)) ⟨fun v58 =>
 @qbb (xbin .quo 0 v51 v41) ⟨fun v61 =>
 @qbb (xbin .mul 0 v61 v41) ⟨fun v65 =>
 @qbb (xbin .sub 0 v51 v65) ⟨fun v66 =>
 @joinV1 (fun J3=>@loopV2 v61 v66 H3 ⟨fun q115 rhat16 H4 K4 =>
 @qbb (xbin .geq 0 q115 (.int .u64 4294967296)) ⟨fun v68 =>
 @qbg (asNB v68) (fun J5=>J5 q115 H4) H4 ⟨fun v70 H5 =>
 @qbg (asNB v68) (fun J6=>J6 v43 H5) H5 ⟨fun v71 H6 =>
 @qbg (asNB v68) (fun J7=>@qbb (xbin .mul 0 v70 v71) ⟨fun v72 =>
 J7 v72 H6⟩) H6 ⟨fun v72a H7 =>
 @qbg (asNB v68) (fun J8=>J8 rhat16 H7) H7 ⟨fun v73 H8 =>
 @qbg (asNB v68) (fun J9=>@qbb (xbin .mul 0 (.int .u64 4294967296) v73) ⟨fun v74 =>
 J9 v74 H8⟩) H8 ⟨fun v74a H9 =>
 @qbg (asNB v68) (fun J10=>J10 v56 H9) H9 ⟨fun v75 H10 =>
 @qbg (asNB v68) (fun J11=>@qbb (xbin .add 0 v74a v75) ⟨fun v76 =>
 J11 v76 H10⟩) H10 ⟨fun v76a H11 =>
 @qbg (asNB v68) (fun J12=>@qbb (xbin .gtr 0 v72a v76a) ⟨fun v77 =>
 J12 v77 H11⟩) H11 ⟨fun v77a H12 =>
 @qb1 v68 (.bool true) v77a ⟨fun v78 =>
 @qbq v78 ⟨fun q=>if q=true then @qbb (xbin .sub 0 q115 (.int .u64 1)) ⟨fun v80 =>
 @qbb (xbin .add 0 rhat16 v41) ⟨fun v83 =>
 @qbb (xbin .geq 0 v83 (.int .u64 4294967296)) ⟨fun v85 =>
 @qbq v85 ⟨fun q=>if q=true then J3 v80 H12 else
 K4 v80 v83 H12⟩⟩⟩⟩ else
 J3 q115 H12⟩⟩⟩⟩⟩⟩⟩⟩⟩⟩⟩⟩) ⟨fun q115a H13 =>
 @qbb (xbin .mul 0 v51 (.int .u64 4294967296)) ⟨fun v87 =>
 @qbb (xbin .add 0 v87 v56) ⟨fun v89 =>
 @qbb (xbin .mul 0 q115a v39) ⟨fun v92 =>
 @qbb (xbin .sub 0 v89 v92) ⟨fun v93 =>
 @qbb (xbin .quo 0 v93 v41) ⟨fun v96 =>
 @qbb (xbin .mul 0 v96 v41) ⟨fun v100 =>
 @qbb (xbin .sub 0 v93 v100) ⟨fun v101 =>
 @joinV1 (fun J13=>@loopV2 v101 v96 H13 ⟨fun rhat16a q018 H14 K14 =>
 @qbb (xbin .geq 0 q018 (.int .u64 4294967296)) ⟨fun v103 =>
 @qbg (asNB v103) (fun J15=>J15 q018 H14) H14 ⟨fun v105 H15 =>
 @qbg (asNB v103) (fun J16=>J16 v43 H15) H15 ⟨fun v106 H16 =>
 @qbg (asNB v103) (fun J17=>@qbb (xbin .mul 0 v105 v106) ⟨fun v107 =>
 J17 v107 H16⟩) H16 ⟨fun v107a H17 =>
 @qbg (asNB v103) (fun J18=>J18 rhat16a H17) H17 ⟨fun v108 H18 =>
 @qbg (asNB v103) (fun J19=>@qbb (xbin .mul 0 (.int .u64 4294967296) v108) ⟨fun v109 =>
 J19 v109 H18⟩) H18 ⟨fun v109a H19 =>
 @qbg (asNB v103) (fun J20=>J20 v58 H19) H19 ⟨fun v110 H20 =>
 @qbg (asNB v103) (fun J21=>@qbb (xbin .add 0 v109a v110) ⟨fun v111 =>
 J21 v111 H20⟩) H20 ⟨fun v111a H21 =>
 @qbg (asNB v103) (fun J22=>@qbb (xbin .gtr 0 v107a v111a) ⟨fun v112 =>
 J22 v112 H21⟩) H21 ⟨fun v112a H22 =>
 @qb1 v103 (.bool true) v112a ⟨fun v113 =>
 @qbq v113 ⟨fun q=>if q=true then @qbb (xbin .sub 0 q018 (.int .u64 1)) ⟨fun v115 =>
 @qbb (xbin .add 0 rhat16a v41) ⟨fun v118 =>
 @qbb (xbin .geq 0 v118 (.int .u64 4294967296)) ⟨fun v120 =>
 @qbq v120 ⟨fun q=>if q=true then J13 v115 H22 else
 K14 v118 v115 H22⟩⟩⟩⟩ else
 J13 q018 H22⟩⟩⟩⟩⟩⟩⟩⟩⟩⟩⟩⟩) ⟨fun q018a H23 =>
 @qbb (xbin .mul 0 q115a (.int .u64 4294967296)) ⟨fun v122 =>
 @qbb (xbin .add 0 v122 q018a) ⟨fun v124 =>
 @qbb (xbin .mul 0 v93 (.int .u64 4294967296)) ⟨fun v126 =>
 @qbb (xbin .add 0 v126 v58) ⟨fun v128 =>
 @qbb (xbin .mul 0 q018a v39) ⟨fun v131 =>
 @qbb (xbin .sub 0 v128 v131) ⟨fun v132 =>
 @qbb (xbin .shr 0 v132 v36) ⟨fun v134 =>
 R (.tuple [v124,v134].toArray) H23⟩⟩⟩⟩⟩⟩⟩⟩⟩⟩⟩⟩⟩⟩⟩⟩⟩⟩⟩⟩⟩⟩⟩⟩⟩⟩⟩⟩⟩⟩⟩⟩⟩⟩⟩
theorem g217_of {hi0 lo1 y2:Value} {H:AH} {R:Value→AH→Prop} (h:g217 hi0 lo1 y2 H R):FN Tryz.prog 217 [hi0,lo1,y2] H R:=
  FN.of_XM (ms:=[(1,[]),(3,[]),(18,[15]),(19,[15,16]),(28,[18]),(29,[16,18])]) qbs (cast (by kernel_rfl) h)
end Go.Sim
