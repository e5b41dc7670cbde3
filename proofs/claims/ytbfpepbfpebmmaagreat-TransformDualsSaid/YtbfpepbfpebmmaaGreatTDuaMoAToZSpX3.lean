/- Part of the proof: MoA, ZPfMatA, ZPfMatB, ZSpF, MoB, MoC, MoP, MoQ, MoD, MoE, MoJ, MoK, MoL, MoM, MoN, MoO, ZTlA, MoY, ZSpX1, ZSpX2, ZSpX3. -/
import Derived.Test.YtbfpepbfpebmmaaGreatTDuaZMoG
import Derived.Test.YtbfpepbfpebmmaaGreatTDuaShSToXfS
import Derived.Test.YtbfpepbfpebmmaaGreatTDuaSimX3ToShD
import Derived.Test.YtbfpepbfpebmmaaGreatTDuaZShMixToZPfFieldI
import Derived.KernelRfl
import Derived.Test.YtbfpepbfpebmmaaGreatTDuaZSpAToZSpU
import Derived.Test.YtbfpepbfpebmmaaGreatTDuaShLw
import Derived.Test.YtbfpepbfpebmmaaGreatTDuaZPfFieldT
import Derived.Test.YtbfpepbfpebmmaaGreatTDuaZPfFieldOToZPfFieldS
import Derived.Test.YtbfpepbfpebmmaaGreatTDuaZPfFieldW0
import Derived.Test.YtbfpepbfpebmmaaGreatTDuaZPfFieldK
import Derived.Test.YtbfpepbfpebmmaaGreatTDuaZPfFieldL
import Derived.Test.YtbfpepbfpebmmaaGreatTDuaSimWToSimX2
import Derived.Test.YtbfpepbfpebmmaaGreatTDuaSimSTToShC
set_option linter.all false
namespace Go.Sim
open Go Go.Proofs
theorem Row.someV {H:AH} {v:Value} {cs:List Value} (h:Row H v cs) (h0:cs≠[]):∃ a l c,v=.slice (some a) l c:=by
  rcases h with ⟨rfl,_⟩|⟨b,o,c,cc,e,op,r,rfl,_⟩
  · exact absurd rfl h0
  · exact⟨_,_,_,rfl⟩
theorem xbin_eqn {a:Addr} {l c:Nat}:xbin .eql 2 (.slice (some a) l c) (.slice none 0 0)=some (.bool false):=rfl
theorem Acc.own {H0 H:AH} {v:Value} {cs:List Value} {e:TypeId} (h:Acc H0 H v cs e) (h0:cs≠[]):Own H0 H v cs e:=by
  rcases h with ⟨h,_⟩|h
  · exact absurd h h0
  · exact h
section
variable {H:AH}
theorem clone_c {v:Value} {cs:List Value} (hv:Row H v cs) (h0:cs≠[]) (h1:cs.all one=true) (hl:cs.length≤100000) :
    FN Tryz.prog 102 [v] H (fun r H'=>Pre H H'∧Own H H' r cs 3):=by
  refine g102_of ?_
  unfold g102
  obtain⟨a,l,c,rfl⟩:=hv.someV h0
  obtain⟨v',H',e1,ha,hp,_⟩:=Acc.appR (H0:=H) (H:=H++[.cells [] 3 none false]) (by_:=8) (by simp) (Own.new (Nat.le_refl _) (cs:=[]) rfl (Y:=[])).acc ((hv.pre (Pre.new H _)).x h0) h1 (by simp;omega) (by simp;omega)
  simp only [List.length_nil,List.nil_append] at e1 ha
  simp (disch:=(first|omega|(simp only [qbj]<;>omega)|(simp only [qbd];done)|rfl)) only [zA,zB,zC,zD,zF,zG,zH,Nat.reduceEqDiff,Nat.reduceLT,Nat.reduceLeDiff,↓reduceIte,xbin_eqn,e1]
  exact⟨hp (Pre.new _ _),ha.own h0⟩
end
end Go.Sim

namespace Go.Sim.Pf
structure Lin (p:Nat) (l3 l1 l2:List Nat):Prop where
  n1:l1.length=l3.length
  n2:l2.length=l3.length
  b3:∀ z∈l3,z<p
  b1:∀ z∈l1,z<p
  b2:∀ z∈l2,z<p
  at_:∀ j,∃ t:Int,(l3.getD j 0:Int)=l1.getD j 0+l2.getD j 0+p*t
theorem qk6 {p v i:Nat} {l:List Nat} (h:∀ z∈l,z<p) (hv:v<p):∀ z∈l.set i v,z<p:=by
  intro z hz
  rcases List.mem_or_eq_of_mem_set hz with h1|rfl
  · exact h z h1
  · exact hv
theorem Lin.set {p i v3 v1 v2:Nat} {l3 l1 l2:List Nat} (h:Lin p l3 l1 l2) (h3:v3<p) (h1:v1<p) (h2:v2<p) (hv:∃ t:Int,(v3:Int)=v1+v2+p*t):Lin p (l3.set i v3) (l1.set i v1) (l2.set i v2):=by
  refine⟨by simp [h.n1],by simp [h.n2],qk6 h.b3 h3,qk6 h.b1 h1,qk6 h.b2 h2,fun j=>?_⟩
  by_cases hi:i<l3.length
  · rw [getD_set hi,getD_set (h.n1 ▸ hi),getD_set (h.n2 ▸ hi)]
    by_cases hj:i=j
    · rw [if_pos hj,if_pos hj,if_pos hj];exact hv
    · rw [if_neg hj,if_neg hj,if_neg hj];exact h.at_ j
  · rw [List.set_eq_of_length_le (by omega),List.set_eq_of_length_le (by have:=h.n1;omega),List.set_eq_of_length_le (by have:=h.n2;omega)]
    exact h.at_ j
theorem mod_lin {p a3 a1 a2:Nat} {t:Int} (h:(a3:Int)=a1+a2+p*t):∃ s:Int,((a3 % p:Nat):Int)=(a1 % p:Nat)+(a2 % p:Nat)+p*s:=by
  have e3:=Int.mul_ediv_add_emod (a3:Int) p
  have e1:=Int.mul_ediv_add_emod (a1:Int) p
  have e2:=Int.mul_ediv_add_emod (a2:Int) p
  simp only [Int.natCast_emod]
  generalize (a3:Int) / p=q3 at *
  generalize (a1:Int) / p=q1 at *
  generalize (a2:Int) / p=q2 at *
  exact⟨t-q3+q1+q2,by grind⟩
theorem Lin.fold {p:Nat} {f3 f1 f2:List Nat→Nat→List Nat} (h:∀ k l3 l1 l2,Lin p l3 l1 l2→Lin p (f3 l3 k) (f1 l1 k) (f2 l2 k)):∀ (ks:List Nat) (l3 l1 l2:List Nat),Lin p l3 l1 l2→Lin p (ks.foldl f3 l3) (ks.foldl f1 l1) (ks.foldl f2 l2)
  | [],_,_,_,hl=>hl
  | k :: ks,_,_,_,hl=>Lin.fold h ks _ _ _ (h k _ _ _ hl)
theorem mulL_lin {p e:Nat} {x3 y3 x1 y1 x2 y2:List Nat} (hp:0<p) (h:∀ i k,∃ t:Int,(x3.getD i 0:Int)*y3.getD k 0=x1.getD i 0*y1.getD k 0+x2.getD i 0*y2.getD k 0+p*t):Lin p (mulL p e x3 y3) (mulL p e x1 y1) (mulL p e x2 y2):=by
  refine Lin.fold (fun i l3 l1 l2 hl=>Lin.fold (fun k l3 l1 l2 hl=>?_) _ _ _ _ hl) _ _ _ _ ?_
  · obtain⟨t1,h1⟩:=hl.at_ (i+k)
    obtain⟨t2,h2⟩:=h i k
    refine hl.set (Nat.mod_lt _ hp) (Nat.mod_lt _ hp) (Nat.mod_lt _ hp) (mod_lin (t:=t1+t2) ?_)
    simp only [Int.natCast_add,Int.natCast_mul]
    rw [h1,h2]
    grind
  · have hz:∀ z∈List.replicate (2*e) 0,z<p:=by intro z hz;rw [List.mem_replicate] at hz;omega
    refine⟨rfl,rfl,hz,hz,hz,fun j=>⟨0,?_⟩⟩
    have:(List.replicate (2*e) 0).getD j 0=0:=by
      simp only [List.getD_eq_getElem?_getD,List.getElem?_replicate];split<;>rfl
    rw [this];rfl
theorem restL_lin {p d:Nat} {m l3 l1 l2:List Nat} (hp:0<p) (h:Lin p l3 l1 l2):Lin p (qj8 p d m l3) (qj8 p d m l1) (qj8 p d m l2):=by
  unfold qj8
  rw [h.n1,h.n2]
  refine Lin.fold (fun t l3 l1 l2 hl=>?_) _ _ _ _ h
  unfold qqf
  rw [hl.n1,hl.n2]
  obtain⟨s,hs⟩:=hl.at_ (l3.length-1-t)
  have c3:=getD_lt (k:=l3.length-1-t) hp hl.b3
  have c1:=getD_lt (k:=l3.length-1-t) hp hl.b1
  have c2:=getD_lt (k:=l3.length-1-t) hp hl.b2
  generalize l3.getD (l3.length-1-t) 0=C3 at *
  generalize l1.getD (l3.length-1-t) 0=C1 at *
  generalize l2.getD (l3.length-1-t) 0=C2 at *
  generalize l3.length-1-t-d=B
  refine Lin.fold (fun k l3 l1 l2 hl=>?_) _ _ _ _ hl
  obtain⟨t1,h1⟩:=hl.at_ (B+k)
  refine hl.set (Nat.mod_lt _ hp) (Nat.mod_lt _ hp) (Nat.mod_lt _ hp) (mod_lin (t:=t1-(1+s)*m.getD k 0) ?_)
  have g3:((p-C3:Nat):Int)=(p:Int)-C3:=by omega
  have g1:((p-C1:Nat):Int)=(p:Int)-C1:=by omega
  have g2:((p-C2:Nat):Int)=(p:Int)-C2:=by omega
  simp only [Int.natCast_add,Int.natCast_mul,g3,g1,g2]
  rw [h1,hs]
  grind
theorem digE {p e a:Nat} (j:Nat):(digs p a e).getD j 0=if j<e then dg p a j else 0:=by
  by_cases h:j<e
  · rw [if_pos h,qd4 p e a j h];rfl
  · rw [if_neg h,List.getD_eq_getElem?_getD,List.getElem?_eq_none (by rw [qbn];omega)];rfl
theorem rmul_bil {p e:Nat} {m:List Nat} (F:Fd p e m) {a1 b1 a2 b2 a3 b3:Nat} (h:∀ i j,i<e→j<e→∃ t:Int,(dg p a3 i:Int)*dg p b3 j=dg p a1 i*dg p b1 j+dg p a2 i*dg p b2 j+p*t) :
    qd9 p e m a3 b3=addF p e (qd9 p e m a1 b1) (qd9 p e m a2 b2):=by
  have hp:0<p:=by have:=F.p2;omega
  have hL:=restL_lin (d:=e) (m:=m++[1]) hp (mulL_lin (e:=e) (x3:=digs p a3 e) (y3:=digs p b3 e) (x1:=digs p a1 e) (y1:=digs p b1 e) (x2:=digs p a2 e) (y2:=digs p b2 e) hp (fun i k=>by
    simp only [digE]
    by_cases hi:i<e
    · by_cases hk:k<e
      · simp only [hi,hk,if_true];exact h i k hi hk
      · exact⟨0,by simp [hk]⟩
    · exact⟨0,by simp [hi]⟩))
  have hlen:∀ x y,(qj8 p e (m++[1]) (mulL p e (digs p x e) (digs p y e))).length=2*e∧∀ z∈qj8 p e (m++[1]) (mulL p e (digs p x e) (digs p y e)),z<p:=by
    intro x y
    have hz0:∀ z∈List.replicate (2*e) 0,z<p:=by intro z hz;rw [List.mem_replicate] at hz;omega
    have q:=qcw (f:=mulI p e (digs p x e) (digs p y e)) (p:=p) (n:=2*e) (fun out k h1 h2=>qcw (fun out k h1 h2=>mulK_ok hp h1 h2) _ _ h1 h2) (List.range e) (List.replicate (2*e) 0) (by simp) hz0
    exact qcw (f:=qqf p e (m++[1])) (p:=p) (n:=2*e) (fun out k h1 h2=>restI_ok hp h1 h2) _ _ q.1 q.2
  have hdg:∀ x y i,i<e→dg p (qd9 p e m x y) i=(qj8 p e (m++[1]) (mulL p e (digs p x e) (digs p y e))).getD i 0:=by
    intro x y i hi
    unfold dg qd9
    rw [qgg hp _ (fun z hz=>(hlen x y).2 z (List.mem_of_mem_take hz))]
    simp only [List.getD_eq_getElem?_getD,List.getElem?_take,if_pos hi]
  have hlt:∀ x y,qd9 p e m x y<p ^ e:=by
    intro x y
    have:=qm0 (p:=p) hp ((qj8 p e (m++[1]) (mulL p e (digs p x e) (digs p y e))).take e) (fun z hz=>(hlen x y).2 z (List.mem_of_mem_take hz))
    rwa [List.length_take,(hlen x y).1,Nat.min_eq_left (by omega)] at this
  refine qcx hp e _ _ (hlt _ _) (qfw hp) (fun i hi=>?_)
  refine Eq.trans ?_ (qdv (a:=qd9 p e m a1 b1) (b:=qd9 p e m a2 b2) hp hi).symm
  obtain⟨t,ht⟩:=hL.at_ i
  rw [←hdg _ _ i hi,←hdg _ _ i hi,←hdg _ _ i hi] at ht
  exact mod_of hp (dg_lt hp) ht
def rmB (p e:Nat) (m:List Nat):Bool:=(List.range e).all fun i=>(List.range e).all fun j=>Nat.beq (qd9 p e m (p ^ i) (p ^ j)) (mulF p e m (p ^ i) (p ^ j))
theorem rmul_eq {p e:Nat} {m:List Nat} {g:Nat} {E:List Nat} (F:FT p e m g E) (hr:rmB p e m=true) (a b:Nat) (ha:a<p ^ e) (hb:b<p ^ e):qd9 p e m a b=mulF p e m a b:=by
  have hp:=F.hp
  have hadd1:∀ a b c,qd9 p e m (addF p e a b) c=addF p e (qd9 p e m a c) (qd9 p e m b c):=fun a b c=>by
    refine rmul_bil F.toFd (fun i j hi hj=>?_)
    obtain⟨t,ht⟩:=qh4 (p:=p) (e:=e) (a:=a) (b:=b) hp hi
    exact⟨t*dg p c j,by rw [ht];grind⟩
  have hadd2:∀ a b c,qd9 p e m a (addF p e b c)=addF p e (qd9 p e m a b) (qd9 p e m a c):=fun a b c=>by
    refine rmul_bil F.toFd (fun i j hi hj=>?_)
    obtain⟨t,ht⟩:=qh4 (p:=p) (e:=e) (a:=b) (b:=c) hp hj
    exact⟨t*dg p a i,by rw [ht];grind⟩
  have hz:∀ x,addF p e x x=x→x<p ^ e→x=0:=fun x hx hlt=>by
    have h1:=sub_addF (e:=e) (a:=x) (b:=x) hp hlt
    rw [hx] at h1
    have h2:subF p e x x=0:=by
      refine qcx hp e _ _ (subF_lt hp) (Nat.pow_pos hp) (fun i hi=>?_)
      refine (subF_dg hp hi).trans ?_
      have:=dg_lt (p:=p) (a:=x) (i:=i) hp
      rw [show dg p x i+p-dg p x i=p by omega,Nat.mod_self]
      exact dg_zero.symm
    omega
  have h00:addF p e 0 0=0:=qrt hp (Nat.pow_pos hp)
  have hlt:∀ a b,qd9 p e m a b=0∨qd9 p e m a b<p ^ e:=fun a b=>by
    right
    have h:=rmul_bil F.toFd (a3:=a) (b3:=b) (a1:=a) (b1:=b) (a2:=0) (b2:=0) (fun i j hi hj=>⟨0,by simp [dg_zero]⟩)
    rw [h];exact qfw hp
  have hr0:∀ b,qd9 p e m 0 b=0:=fun b=>by
    have h:=hadd1 0 0 b
    rw [h00] at h
    rcases hlt 0 b with h1|h1
    · exact h1
    · exact hz _ h.symm h1
  have hr1:∀ a,qd9 p e m a 0=0:=fun a=>by
    have h:=hadd2 a 0 0
    rw [h00] at h
    rcases hlt a 0 with h1|h1
    · exact h1
    · exact hz _ h.symm h1
  refine F.gen (fun a=>qd9 p e m a b=mulF p e m a b) ?_ (fun i hi=>?_) (fun x y hx hy=>?_) a ha
  · rw [hr0,qgj F.toFd _ _ (.inl rfl)]
  · refine F.gen (fun b=>qd9 p e m (p ^ i) b=mulF p e m (p ^ i) b) ?_ (fun j hj=>?_) (fun x y hx hy=>?_) b hb
    · rw [hr1,qgj F.toFd _ _ (.inr rfl)]
    · exact Nat.eq_of_beq_eq_true (List.all_eq_true.1 (List.all_eq_true.1 hr i (List.mem_range.2 hi)) j (List.mem_range.2 hj))
    · rw [hadd2,qdx F.toFd,hx,hy]
  · rw [hadd1,qf3 F.toFd,hx,hy]
theorem rsub_eq {p e a b:Nat} (hp:0<p):addF p e a (negF p e b)=subF p e a b:=by
  have hneg:∀ i,i<e→dg p (negF p e b) i=(p-dg p b i) % p:=by
    intro i hi
    have hl:∀ z∈negL p (digs p b e),z<p:=by
      intro z hz
      simp only [negL,List.mem_map] at hz
      obtain⟨w,_,rfl⟩:=hz
      exact Nat.mod_lt _ hp
    unfold negF
    have h1:=qgg hp (negL p (digs p b e)) hl i
    refine h1.trans ?_
    have l1:=qbn p e b
    have h2:dg p b i=(digs p b e).getD i 0:=(qd4 p e b i hi).symm
    rw [h2]
    simp only [negL,List.getD_eq_getElem?_getD,List.getElem?_map]
    rw [List.getElem?_eq_getElem (by omega)]
    rfl
  refine qcx hp e _ _ (qfw hp) (subF_lt hp) (fun i hi=>?_)
  refine (qdv hp hi).trans (Eq.trans ?_ (subF_dg hp hi).symm)
  rw [hneg i hi,Nat.add_mod_mod]
  have:=dg_lt (p:=p) (a:=b) (i:=i) hp
  congr 1;omega
end Go.Sim.Pf

namespace Go.Sim.Pf
open Go Go.Proofs
structure FM (p e:Nat) (m:List Nat) (g:Nat) (E fs:List Nat):Prop extends FT p e m g E where
  rm:rmB p e m=true
theorem neg_eq {p e b:Nat} (hp:0<p):negF p e b=subF p e 0 b:=by
  have h:=rsub_eq (e:=e) (a:=0) (b:=b) hp
  have hl:(negL p (digs p b e)).length=e:=by simp [negL,qbn]
  have hlt:negF p e b<p ^ e:=by
    have:=qm0 (p:=p) hp (negL p (digs p b e)) (by
      intro z hz
      simp only [negL,List.mem_map] at hz
      obtain⟨w,_,rfl⟩:=hz
      exact Nat.mod_lt _ hp)
    rwa [hl] at this
  rw [addF_comm hp,qrt hp hlt] at h
  exact h
section
variable {p e b c x:Nat} {m fs:List Nat} {g:Nat} {E:List Nat} {H:AH} {el:TypeId} {op:Option Nat} {r:Bool}
theorem rmulM (F:FM p e m g E fs) (hb:H[b]? = some (.cells (m.map nv) el op r)) {y:Nat} (hx:x<p ^ e) (hy:y<p ^ e):FN Tryz.prog 132 [fldv p e b e c,nv x,nv y] H (fun v H'=>v=nv (mulF p e m x y)∧H'=H):=by
  have hq:=F.q
  have h:=rmul_spec (c:=c) hb F.len F.lt F.p2 F.e1 F.e6 F.q (show x<1000 by omega) (show y<1000 by omega)
  rwa [rmul_eq F.toFT F.rm x y hx hy] at h
theorem inv_uniq (F:FM p e m g E fs) {y:Nat} (hx:x<p ^ e) (h0:x≠0) (hy:y<p ^ e) (h:mulF p e m x y=1):y=pw p e m x (p ^ e-2):=by
  have hI:=F.mul_inv x hx h0
  have hlt:=F.pw_lt x (p ^ e-2)
  generalize pw p e m x (p ^ e-2)=I at *
  have h1:mulF p e m I (mulF p e m x y)=y:=by
    rw [←F.mul_assoc _ _ _ hlt hx hy,F.mul_comm I x hlt hx,hI,F.one_mul y hy]
  rw [h,F.mul_one I hlt] at h1
  exact h1.symm
theorem powZ_inv (F:FM p e m g E fs) (hx:x<p ^ e) (h0:x≠0):powZ p e m x (-1)=(pw p e m x (p ^ e-2),0):=by
  have:=F.q2
  have h1:((-1:Int) % ((p ^ e:Nat)-1:Int)).toNat=p ^ e-2:=by
    rcases Nat.eq_or_lt_of_le this with h|h
    · rw [←h];rfl
    · have:(-1:Int) % ((p ^ e:Nat)-1:Int)=((p ^ e:Nat)-2:Int):=by
        rw [←Int.add_mul_emod_self_left (-1) _ 1]
        rw [Int.emod_eq_of_lt (by omega) (by omega)]
        omega
      omega
  unfold powZ
  rw [if_neg (by omega),if_neg h0,h1,F.powF x _ hx]
theorem rinv_spec (F:FM p e m g E fs) (hb:H[b]? = some (.cells (m.map nv) el op r)) (hx:x<p ^ e) :
    FN Tryz.prog 107 [fldv p e b e c,nv x] H (fun v H'=>v=.tuple [nv (powZ p e m x (-1)).1,nv (powZ p e m x (-1)).2].toArray∧H'=H):=by
  have hb2:=fun (Y:AH)=>qcv (L:=Y) hb
  have hq:=F.q
  refine FN.gc0 (FN.of_compZ qbq xf107_ok (Nat.le_of_ble_eq_true rfl) ?_)
  by_cases h0:x=0
  · subst h0
    simp (disch:=(first|omega|(simp only [List.length_map];omega)|(simp only [qbj]<;>omega)|(simp only [qbd];done)|rfl)) only [↓qbk,zC,zD,zF,zG,zH,Nat.reduceEqDiff,Nat.reduceLT,Nat.reduceLeDiff,↓reduceIte,xf107]
    simp [ground,scal,powZ]
  · rw [powZ_inv F hx h0]
    have hI:=F.mul_inv x hx h0
    have hu:=fun y hy=>inv_uniq F (x:=x) (y:=y) hx h0 hy
    have hlt:=F.pw_lt x (p ^ e-2)
    have hne:=F.pw_ne x (p ^ e-2) hx h0
    generalize pw p e m x (p ^ e-2)=I at *
    simp (disch:=(first|omega|(simp only [List.length_map];omega)|(simp only [qbj]<;>omega)|(simp only [qbd];done)|rfl)) only [↓qbk,zC,zD,zF,zG,zH,Nat.reduceEqDiff,Nat.reduceLT,Nat.reduceLeDiff,↓reduceIte,xf107,h0]
    refine LZ.nat (I-1) (fun k s H'=>s.env 1=nv x∧s.env 2=.pointer (some ⟨H.length,0,none⟩)∧s.env 6=nv (k+1)∧s.ds=[]∧H'=H++[.cells [nv p,nv e,.slice (some ⟨b,0,none⟩) e c] 76 none false]) ?_ ?_ ?_
    · simp (disch:=(first|omega|(simp only [List.length_map];omega)|(simp only [qbj]<;>omega)|(simp only [qbd];done)|rfl)) only [↓qbk,zC,zD,zF,zG,zH,Nat.reduceEqDiff,Nat.reduceLT,Nat.reduceLeDiff,↓reduceIte]
    · rintro k s H1 hk ⟨e1,e2,e6,eds,rfl⟩
      have hk1:k+1<p ^ e:=by omega
      have hn1:¬mulF p e m x (k+1)=1:=fun h=>by have:=hu (k+1) hk1 h;omega
      simp (disch:=(first|omega|(simp only [List.length_map];omega)|(simp only [qbj]<;>omega)|(simp only [qbd];done)|rfl)) only [↓qbk,zC,zD,zF,zG,zH,Nat.reduceEqDiff,Nat.reduceLT,Nat.reduceLeDiff,↓reduceIte,e1,e2,e6,eds]
      refine FZ.use (qkz F.p2 F.q) ?_
      simp (disch:=(first|omega|(simp only [List.length_map];omega)|(simp only [qbj]<;>omega)|(simp only [qbd];done)|rfl)) only [↓qbk,zC,zD,zF,zG,zH,Nat.reduceEqDiff,Nat.reduceLT,Nat.reduceLeDiff,↓reduceIte,e1,e2,e6,eds,hk1]
      refine FZ.use (rmulM F (hb2 _) hx hk1) ?_
      simp (disch:=(first|omega|(simp only [List.length_map];omega)|(simp only [qbj]<;>omega)|(simp only [qbd];done)|rfl)) only [↓qbk,zC,zD,zF,zG,zH,Nat.reduceEqDiff,Nat.reduceLT,Nat.reduceLeDiff,↓reduceIte,e1,e2,e6,eds,hn1]
    · rintro s H1 ⟨e1,e2,e6,eds,rfl⟩
      have hI1:I-1+1=I:=by omega
      rw [hI1] at e6
      simp (disch:=(first|omega|(simp only [List.length_map];omega)|(simp only [qbj]<;>omega)|(simp only [qbd];done)|rfl)) only [↓qbk,zC,zD,zF,zG,zH,Nat.reduceEqDiff,Nat.reduceLT,Nat.reduceLeDiff,↓reduceIte,e1,e2,e6,eds]
      refine FZ.use (qkz F.p2 F.q) ?_
      simp (disch:=(first|omega|(simp only [List.length_map];omega)|(simp only [qbj]<;>omega)|(simp only [qbd];done)|rfl)) only [↓qbk,zC,zD,zF,zG,zH,Nat.reduceEqDiff,Nat.reduceLT,Nat.reduceLeDiff,↓reduceIte,e1,e2,e6,eds,hlt]
      refine FZ.use (rmulM F (hb2 _) hx hlt) ?_
      simp (disch:=(first|omega|(simp only [List.length_map];omega)|(simp only [qbj]<;>omega)|(simp only [qbd];done)|rfl)) only [↓qbk,zC,zD,zF,zG,zH,Nat.reduceEqDiff,Nat.reduceLT,Nat.reduceLeDiff,↓reduceIte,e1,e2,e6,eds,hI,xf107]
      simp [ground,scal]
theorem rnegM (hp:2≤p) (he:1≤e) (he6:e≤6) (hq:p ^ e≤64) {n:Nat} (hx:x<1000):FN Tryz.prog 81 [fldv p e b n c,nv x] H (fun v H'=>v=nv (subF p e 0 x)∧H'=H):=by
  have h:=rneg_spec (b:=b) (n:=n) (c:=c) (H:=H) hp he he6 hq hx
  rwa [neg_eq (by omega)] at h
end
end Go.Sim.Pf

namespace Go.Sim
open Go Go.Proofs
structure FQ (α:Type) [Fl α] (cd:α→Nat) (p e q:Nat) (blk:AB):Prop where
  ok:∀ b,FOK α cd p e b e q blk
  make:∀ H:AH,FN Tryz.prog 111 [nv q] H (fun r H'=>r=.tuple [fldv p e H.length e e,nv 0].toArray∧H'=H++[blk])
  rmake:∀ H:AH,FN Tryz.prog 109 [nv q] H (fun r H'=>r=.tuple [fldv p e H.length e e,nv 0].toArray∧H'=H++[blk])
end Go.Sim
namespace Go.Sim.Pf
open Go Go.Proofs
@[reducible] def flOf {p e g:Nat} {m E:List Nat} (F:FT p e m g E):Fl {n:Nat // n<p ^ e} where
  zero:=⟨0,by have:=F.q2;omega⟩
  one:=⟨1,by have:=F.q2;omega⟩
  add a b:=⟨addF p e a.1 b.1,qfw F.hp⟩
  mul a b:=⟨mulF p e m a.1 b.1,F.mul_lt _ _⟩
  neg a:=⟨subF p e 0 a.1,subF_lt F.hp⟩
  inv a:=⟨pw p e m a.1 (p ^ e-2),F.pw_lt _ _⟩
  add_comm a b:=Subtype.ext (addF_comm F.hp _ _)
  add_assoc a b c:=Subtype.ext (addF_assoc F.hp _ _ _)
  add_zero a:=Subtype.ext (qrt F.hp a.2)
  add_neg a:=Subtype.ext (add_negF F.hp)
  mul_comm a b:=Subtype.ext (F.mul_comm _ _ a.2 b.2)
  mul_assoc a b c:=Subtype.ext (F.mul_assoc _ _ _ a.2 b.2 c.2)
  mul_one a:=Subtype.ext (F.mul_one _ a.2)
  mul_add a b c:=Subtype.ext (qdx F.toFd _ _ _)
  mul_inv a h:=Subtype.ext (F.mul_inv _ a.2 (fun h0=>h (Subtype.ext h0)))
  one_ne:=fun h=>by have:=congrArg Subtype.val h;simp at this
theorem fokOf {p e g:Nat} {m E:List Nat} (F:FT p e m g E) (hr:rmB p e m=true) (b:Nat) :
    @FOK {n:Nat // n<p ^ e} (flOf F) (fun x=>x.1) p e b e (p ^ e) (.cells (m.map nv) 3 (some 1) false):=by
  letI:=flOf F
  have hq:=F.q
  have hp64:p≤64:=by have:=qc0 (k:=1) F.p2 F.e1 F.q;simpa using this
  have he6:=F.e6
  have lt:∀ x:{n:Nat // n<p ^ e},x.1<1000:=fun x=>by have:=x.2;omega
  have hsub:∀ x y:{n:Nat // n<p ^ e},subF p e x.1 y.1=(Fl.add x (Fl.neg y)).1:=fun x y=>by
    show _=addF p e x.1 (subF p e 0 y.1)
    rw [←neg_eq F.hp,rsub_eq F.hp]
  have FMm:FM p e m g E []:={ toFT:=F,rm:=hr }
  constructor
  · intro x y h;exact Subtype.ext h
  · intro x;exact x.2
  · intro n hn;exact⟨⟨n,hn⟩,rfl⟩
  · rfl
  · rfl
  · exact F.q
  · exact F.q2
  · intro H x y hb;exact qn8 hb F.len F.lt F.p2 F.e1 F.e6 F.q (lt x) (lt y)
  · intro H x y hb;exact add_spec F.p2 F.e1 F.e6 rfl F.q (lt x) (lt y)
  · intro H x y hb;rw [←hsub];exact sub_spec F.p2 F.e1 F.e6 rfl F.q (lt x) (lt y)
  · intro H x hb;exact neg_spec F.p2 F.e1 F.e6 rfl F.q (lt x)
  · intro H x hb h0
    have h0':x.1≠0:=fun h=>h0 (Subtype.ext h)
    have h:=inv_spec (c:=e) hb F.len F.lt F.p2 F.e1 F.e6 F.q (lt x)
    rw [powZ_inv FMm x.2 h0'] at h
    exact h
  · intro H hb;exact size_spec F.p2 F.e1 F.e6 rfl F.q
  · intro H x y hb;exact rmulM FMm hb x.2 y.2
  · intro H x y hb;exact radd_spec F.p2 F.e1 F.e6 F.q (lt x) (lt y)
  · intro H x hb;exact rnegM F.p2 F.e1 F.e6 F.q (lt x)
  · intro H x hb h0
    have h0':x.1≠0:=fun h=>h0 (Subtype.ext h)
    have h:=rinv_spec (c:=e) FMm hb x.2
    rw [powZ_inv FMm x.2 h0'] at h
    exact h
  · intro H hb;exact qkz F.p2 F.q
theorem fq_of {p e g q:Nat} {m E:List Nat} (F:FT p e m g E) (hq:q=p ^ e) (hr:rmB p e m=true) (h1:qmm Tryz.prog 111 [nv q] (.fld p e e e 0 (.cells (m.map nv) 3 (some 1) false))) (h2:qmm Tryz.prog 109 [nv q] (.fld p e e e 0 (.cells (m.map nv) 3 (some 1) false))) :
    @FQ {n:Nat // n<p ^ e} (flOf F) (fun x=>x.1) p e q (.cells (m.map nv) 3 (some 1) false):=by
  letI:=flOf F
  subst hq
  exact⟨fun b=>fokOf F hr b,h1,h2⟩
def ordM (j:Nat):Nat:=[2,3,4,5,7,8].getD j 0
theorem fq_at:∀ j,j<6→∃ (α:Type) (i1:Fl α) (_:DecidableEq α) (cd:α→Nat) (p e:Nat) (blk:AB),FQ α cd p e (ordM j) blk
  | 0,_=>⟨_,flOf ft2,inferInstance,_,_,_,_,fq_of ft2 rfl (by decide +kernel) (qgn _ (List.mem_of_getElem? (i:=2) rfl)) (qgm _ (List.mem_of_getElem? (i:=2) rfl))⟩
  | 1,_=>⟨_,flOf ft3,inferInstance,_,_,_,_,fq_of ft3 rfl (by decide +kernel) (qgn _ (List.mem_of_getElem? (i:=3) rfl)) (qgm _ (List.mem_of_getElem? (i:=3) rfl))⟩
  | 2,_=>⟨_,flOf ft4,inferInstance,_,_,_,_,fq_of ft4 rfl (by decide +kernel) (qgn _ (List.mem_of_getElem? (i:=4) rfl)) (qgm _ (List.mem_of_getElem? (i:=4) rfl))⟩
  | 3,_=>⟨_,flOf ft5,inferInstance,_,_,_,_,fq_of ft5 rfl (by decide +kernel) (qgn _ (List.mem_of_getElem? (i:=5) rfl)) (qgm _ (List.mem_of_getElem? (i:=5) rfl))⟩
  | 4,_=>⟨_,flOf ft7,inferInstance,_,_,_,_,fq_of ft7 rfl (by decide +kernel) (qgn _ (List.mem_of_getElem? (i:=7) rfl)) (qgm _ (List.mem_of_getElem? (i:=7) rfl))⟩
  | 5,_=>⟨_,flOf ft8,inferInstance,_,_,_,_,fq_of ft8 rfl (by decide +kernel) (qgn _ (List.mem_of_getElem? (i:=8) rfl)) (qgm _ (List.mem_of_getElem? (i:=8) rfl))⟩
  | n+6,h=>absurd h (by omega)
end Go.Sim.Pf

namespace Go.Sim
open Go Go.Proofs
theorem qck {H:AH} {x y z c0 c1 c2:Value} {e:TypeId} {op:Option Nat} {bl:Nat} (h1:one x=true) (h2:one y=true) (h3:one z=true):stB 3 H (some (.cells [c0,c1,c2] e op false)) bl 0 (.agg #[x,y,z])=some (undef,H.set bl (.cells [x,y,z] e op false)):=
  qp5 (c':=[x,y,z]) rfl rfl (by simp [h1,h2,h3])
section
variable {α:Type} [Fl α] [DecidableEq α] {cd:α→Nat} {p e b c q:Nat} {blk:AB} {H:AH}
abbrev codv (q n:Nat) (v:Value):Value:=.agg [nv q,nv n,v].toArray
theorem rtimes_c (F:FOK α cd p e b c q blk) {v:Value} {xs:List α} {a:α} (hb:H[b]? = some blk) (hv:Row H v (evs cd xs)) (hx:xs.length≤1000) :
    FN Tryz.prog 74 [fldv p e b e c,nv (cd a),v] H (fun r H'=>Pre H H'∧Acc H H' r (evs cd (xs.map (Fl.mul a))) 3):=by
  refine g74_of ?_
  unfold g74
  simp (disch:=omega) only [zA,zB,zC,zD,zF,zG,zH,↓reduceIte]
  refine loopV2.nat xs.length (fun k out i H'=>i=nv k∧Pre (H++[fbx p e b c]) H'∧Acc (H++[fbx p e b c]) H' out (evs cd ((xs.map (Fl.mul a)).take k)) 3) ?_ ?_ ?_
  · exact⟨rfl,Pre.snoc _ _ _,Acc.start1 rfl⟩
  · rintro k out i H3 hk ⟨rfl,hp,ho⟩ J hJ
    have hbx:=hp.get (b:=H.length) (x:=fbx p e b c) (by simp)
    have hp0:=(Pre.new H _).trans hp
    have hb3:=hp0.get hb
    obtain⟨vl,vi,vd,_⟩:=(hv.pre hp0).all Fl.zero
    simp (disch:=omega) only [zA,zB,zC,zD,zF,zG,zH,↓reduceIte,hbx,vl,vi,vd,hk]
    refine FZ.use (F.rmul H3 _ _ hb3) ?_
    have hlen:(evs cd ((xs.map (Fl.mul a)).take k)).length≤1000:=by simp;omega
    obtain⟨out',H5,e1,ho',hp',_⟩:=ho.app1 (by_:=8) hp.len (u:=nv (cd (Fl.mul a (xs.getD k Fl.zero)))) rfl (by omega) (by omega) (e2:=3)
    simp (disch:=(first|omega|(simp only [qbj]<;>omega)|(simp only [qbd];done)|rfl)) only [zA,zB,zC,zD,zF,zG,zH,Nat.reduceEqDiff,Nat.reduceLT,Nat.reduceLeDiff,↓reduceIte,e1,hk]
    refine hJ _ _ _ ⟨rfl,hp' hp,?_⟩
    rw [List.take_succ_eq_append_getElem (by simpa using hk)]
    simpa [List.getD_eq_getElem?_getD,List.getElem?_eq_getElem hk] using ho'
  · rintro out i H3 ⟨rfl,hp,ho⟩ J
    have hp0:=(Pre.new H _).trans hp
    obtain⟨vl,vi,vd,_⟩:=(hv.pre hp0).all Fl.zero
    simp (disch:=omega) only [zA,zB,zC,zD,zF,zG,zH,↓reduceIte,vl]
    rw [List.take_of_length_le (by simp)] at ho
    exact⟨hp0,ho.mono (by simp)⟩
def qft (xs ys:List α):List α:=List.zipWith Fl.add xs ys
theorem rplus_c (F:FOK α cd p e b c q blk) {v w:Value} {xs ys:List α} (hb:H[b]? = some blk) (hv:Row H v (evs cd xs)) (hw:Row H w (evs cd ys)) (hl:xs.length=ys.length) (hx:xs.length≤1000) :
    FN Tryz.prog 108 [fldv p e b e c,v,w] H (fun r H'=>Pre H H'∧Acc H H' r (evs cd (qft xs ys)) 3):=by
  refine g108_of ?_
  unfold g108
  simp (disch:=omega) only [zA,zB,zC,zD,zF,zG,zH,↓reduceIte]
  refine loopV2.nat xs.length (fun k out i H'=>i=nv k∧Pre (H++[fbx p e b c]) H'∧Acc (H++[fbx p e b c]) H' out (evs cd ((qft xs ys).take k)) 3) ?_ ?_ ?_
  · exact⟨rfl,Pre.snoc _ _ _,Acc.start1 rfl⟩
  · rintro k out i H3 hk ⟨rfl,hp,ho⟩ J hJ
    have hbx:=hp.get (b:=H.length) (x:=fbx p e b c) (by simp)
    have hp0:=(Pre.new H _).trans hp
    have hb3:=hp0.get hb
    have hky:k<ys.length:=by omega
    obtain⟨vl,vi,vd,_⟩:=(hv.pre hp0).all Fl.zero
    obtain⟨wl,wi,wd,_⟩:=(hw.pre hp0).all Fl.zero
    simp (disch:=omega) only [zA,zB,zC,zD,zF,zG,zH,↓reduceIte,hbx,vl,vi,vd,wl,wi,wd,hk,hky]
    refine FZ.use (F.radd H3 _ _ hb3) ?_
    have hlen:(evs cd ((qft xs ys).take k)).length≤1000:=by simp;omega
    obtain⟨out',H5,e1,ho',hp',_⟩:=ho.app1 (by_:=8) hp.len (u:=nv (cd (Fl.add (xs.getD k Fl.zero) (ys.getD k Fl.zero)))) rfl (by omega) (by omega) (e2:=3)
    simp (disch:=(first|omega|(simp only [qbj]<;>omega)|(simp only [qbd];done)|rfl)) only [zA,zB,zC,zD,zF,zG,zH,Nat.reduceEqDiff,Nat.reduceLT,Nat.reduceLeDiff,↓reduceIte,e1,hk]
    refine hJ _ _ _ ⟨rfl,hp' hp,?_⟩
    rw [List.take_succ_eq_append_getElem (by simp [qft];omega)]
    simpa [qft,List.getD_eq_getElem?_getD,List.getElem?_eq_getElem hk,List.getElem?_eq_getElem hky] using ho'
  · rintro out i H3 ⟨rfl,hp,ho⟩ J
    have hp0:=(Pre.new H _).trans hp
    obtain⟨vl,vi,vd,_⟩:=(hv.pre hp0).all Fl.zero
    simp (disch:=omega) only [zA,zB,zC,zD,zF,zG,zH,↓reduceIte,vl]
    rw [List.take_of_length_le (by simp [qft];omega)] at ho
    exact⟨hp0,ho.mono (by simp)⟩
theorem evr_nv (xss:List (List α)):evr cd xss=(xss.map fun l=>l.map cd).map fun l=>l.map nv:=by simp [evs,Function.comp_def]
end
end Go.Sim

namespace Go.Sim
open Go Go.Proofs
section
variable {α:Type} [Fl α] [DecidableEq α] {cd:α→Nat} {p e b c q:Nat} {blk:AB} {H:AH}
structure Spn (cd:α→Nat) (n0 sb:Nat) (vs:List Value) (op:Option Nat) (H:AH) (M:List (List α)):Prop where
  blk:H[sb]? = some (.cells vs 31 op false)
  rws:Rws H vs (evr cd M)
  low:∀ x∈vs,Lw.Lo n0 x
  sn:n0≤sb
theorem Spn.len {n0 sb:Nat} {vs:List Value} {op:Option Nat} {M:List (List α)} (h:Spn cd n0 sb vs op H M):vs.length=M.length:=by have:=h.rws.1;simpa using this
theorem Spn.row {n0 sb:Nat} {vs:List Value} {op:Option Nat} {M:List (List α)} (h:Spn cd n0 sb vs op H M) {k:Nat} (hk:k<M.length):Row H (vs.getD k undef) (evs cd (M.getD k [])):=by
  have:=h.rws.2 k (by simpa using hk)
  rwa [show ([]:List Value)=evs cd [] from rfl,qdd] at this
theorem Spn.spine {n0 sb:Nat} {vs:List Value} {op:Option Nat} {M:List (List α)} (h:Spn cd n0 sb vs op H M) {l m:Nat} (hl:l=M.length) (hm:l≤m):Row H (.slice (some ⟨sb,0,none⟩) l m) vs:=Row.of h.blk (by rw [h.len,hl]) hm
theorem Spn.pre {n0 sb:Nat} {vs:List Value} {op:Option Nat} {M:List (List α)} (h:Spn cd n0 sb vs op H M) {H':AH} (hp:Pre H H'):Spn cd n0 sb vs op H' M:=⟨hp.get h.blk,h.rws.pre hp,h.low,h.sn⟩
theorem Spn.set {n0 sb:Nat} {vs:List Value} {op:Option Nat} {M:List (List α)} (h:Spn cd n0 sb vs op H M) {k:Nat} (hk:k<M.length) {w:Value} {xs:List α} (hw:Row H w (evs cd xs)) (hlo:Lw.Lo n0 w) :
    Spn cd n0 sb (vs.set k w) op (H.set sb (.cells (vs.set k w) 31 op false)) (M.set k xs):=by
  have hlt:=qbs h.blk
  have hl:=h.len
  have hkeep:∀ r cs,Row H r cs→cs.all qk3=true→Row (H.set sb (.cells (vs.set k w) 31 op false)) r cs:=fun r cs hr hc=>hr.keep hc h.blk h.rws.isSl fun b' _ hne=>List.getElem?_set_ne (Ne.symm hne)
  refine⟨List.getElem?_set_self hlt,⟨by simp [hl],fun j hj=>?_⟩,fun x hx=>?_,h.sn⟩
  · simp only [List.length_map,List.length_set] at hj
    rw [show ([]:List Value)=evs cd [] from rfl,qdd,getD_set (by omega),getD_set hk]
    by_cases hjk:j=k
    · rw [if_pos hjk,if_pos hjk];exact hkeep _ _ hw (qhj _)
    · rw [if_neg hjk,if_neg hjk];exact hkeep _ _ (h.row hj) (qhj _)
  · rcases List.mem_or_eq_of_mem_set hx with hx|rfl
    · exact h.low x hx
    · exact hlo
theorem Spn.keep {n0 sb:Nat} {vs:List Value} {op:Option Nat} {M:List (List α)} (h:Spn cd n0 sb vs op H M) {r:Value} {xs:List α} (hr:Row H r (evs cd xs)) {y:AB}:Row (H.set sb y) r (evs cd xs):=hr.keep (qhj _) h.blk h.rws.isSl fun b' _ hne=>List.getElem?_set_ne (Ne.symm hne)
theorem Spn.ldB {n0 sb:Nat} {vs:List Value} {op:Option Nat} {M:List (List α)} (h:Spn cd n0 sb vs op H M) {k:Nat} (hk:k<vs.length):qc6 none H[sb]? k=some (vs.getD k undef):=by
  rw [h.blk]
  simp [qc6,qdj,List.getD_eq_getElem?_getD,List.getElem?_eq_getElem hk]
theorem Spn.at_ {n0 sb:Nat} {vs:List Value} {op:Option Nat} {M:List (List α)} (h:Spn cd n0 sb vs op H M) {k:Nat} (hk:k<M.length):Lw.Lo n0 (vs.getD k undef):=h.low _ (getD_mem (by rw [h.len];exact hk))
theorem lsub_plus {xs ys:List α} {a:α}:qft xs (ys.map (Fl.mul (Fl.neg a)))=lsub xs a ys:=by
  unfold qft lsub
  rw [List.zipWith_map_right]
  congr 1
  funext x y
  have:Fl.mul (Fl.neg a) y=Fl.neg (Fl.mul a y):=by
    refine Fl.add_left_cancel (a:=Fl.mul a y) ?_
    rw [Fl.add_neg,←Fl.add_mul,Fl.add_neg,Fl.zero_mul]
  rw [this]
theorem RedTo.full {n col:Nat} {M:List (List α)} {P:List Nat} (h:RedTo n col M P) (hc:col≤n) (hl:P.length=M.length∨col=n):RedTo n n M P:=by
  rcases hl with hl|rfl
  · exact⟨h.len,h.width,fun i hi=>by have:=h.lt i hi;omega,h.inc,h.one,h.alone,h.lead,fun k j hk hm=>by omega⟩
  · exact h
theorem rreduce_c (F:FOK α cd p e b c q blk) {v:Value} {n:Nat} {rows:List (List α)} (hb:H[b]? = some blk) (hv:RowR H v (evr cd rows)) (hl:∀ x∈rows,x.length=n) (hR:rows.length≤400) (hn:n≤1000) (hn0:0<n) :
    FN Tryz.prog 61 [fldv p e b e c,nv n,v] H (fun r H'=>Pre H H'∧Lw.RowLo H.length H' r (evr cd (qbz rows))):=by
  refine g61_of ?_
  unfold g61
  obtain⟨vs,hvs,hvl,hvr⟩:=hv.open
  simp (disch:=omega) only [zA,zB,zC,zD,zF,zG,zH,↓reduceIte]
  refine loopV2.nat rows.length (fun k out i H'=>i=nv k∧Pre (H++[fbx p e b c]) H'∧((∃ l,out=.slice (some ⟨l,0,none⟩) k k)∧Lw.AccLo (H++[fbx p e b c]) H' out (evr cd (rows.take k)) 31)) ⟨rfl,Pre.snoc _ _ _,⟨_,rfl⟩,?_⟩ ?_ ?_
  · refine⟨[],?_,⟨rfl,by simp⟩,by simp,by simp⟩
    have:=Own.new (H0:=H++[fbx p e b c]) (H:=H++[fbx p e b c]) (Nat.le_refl _) (cs:=[]) (e:=31) rfl (Y:=[])
    simpa using this.acc
  · rintro k out i H3 hk ⟨rfl,hp,⟨sb,rfl⟩,ho⟩ J hJ
    have hp0:=(Pre.new H _).trans hp
    obtain⟨vl,vi,vd,vd2⟩:=(hvs.pre hp0).allV
    have hk':k<vs.length:=by omega
    have hwk:=qb7 hl hk
    have hne:evs cd (rows.getD k [])≠[]:=fun h=>by have h2:=congrArg List.length h;rw [List.length_map,hwk] at h2;simp at h2;omega
    have hcl:(evs cd (rows.getD k [])).length=n:=by rw [List.length_map,hwk]
    have hrow:=(hvr k hk).pre hp0
    obtain⟨w,H5,e1,ha,hp5,hl5⟩:=Acc.appR (H0:=H3) (H:=H3++[.cells [] 3 none false]) (by_:=8) (by simp) (Own.new (Nat.le_refl _) (cs:=[]) rfl (Y:=[])).acc ((hrow.pre (Pre.new H3 _)).x hne) (by simp [one]) (by rw [hcl];simp;omega) (by rw [hcl];simp;omega)
    simp only [List.length_nil,List.nil_append] at e1 ha
    have hp5':=hp5 (Pre.new _ _)
    have hp05:=hp.trans hp5'
    have hlo:Lw.Lo (H++[fbx p e b c]).length w:=fun a l c h=>Nat.le_trans hp.len (Lw.acc_lo ha _ _ _ h)
    obtain⟨out',H7,e2,ho',hp7,hl7⟩:=(ho.pre hp5').app1 (by_:=24) hp05.len ha.row hlo (qhj _) (by simp;omega) (by simp;omega) (e2:=31)
    simp (disch:=(first|omega|(simp only [qbj]<;>omega)|(simp only [qbd];done)|rfl)) only [zA,zB,zC,zD,zF,zG,zH,Nat.reduceEqDiff,Nat.reduceLT,Nat.reduceLeDiff,↓reduceIte,vl,vi,vd,vd2,hk',e1,ha.row.fill,e2]
    refine hJ _ _ _ ⟨rfl,hp7 hp05,?_,?_⟩
    · obtain⟨ws,h1,h2,_⟩:=ho'
      have hwl:=h2.1
      simp at hwl
      rcases h1.own (by intro h;rw [h] at hwl;simp at hwl) with ⟨bb,_,rfl,_⟩
      exact⟨bb,by rw [hwl];simp;omega⟩
    · have e:evr cd (rows.take (k+1))=evr cd (rows.take k)++[evs cd (rows.getD k [])]:=by
        show List.map _ _=List.map _ _++_
        rw [List.take_succ_eq_append_getElem hk,List.map_append,qcj hk];rfl
      rw [e];exact ho'
  · rintro out i H3 ⟨rfl,hp,⟨sb,rfl⟩,ho⟩ J
    obtain⟨vl,_,_,_⟩:=(hvs.pre ((Pre.new H _).trans hp)).allV
    rw [List.take_of_length_le (Nat.le_refl _)] at ho
    obtain⟨ws,ha,hr,_,hlow⟩:=ho
    have hs0:∃ op,Spn cd (H++[fbx p e b c]).length sb ws op H3 rows:=by
      rcases ha with ⟨_,h⟩|⟨bb,hb1,h,op,_,h2⟩
      · cases h
      · simp only [Value.slice.injEq,Option.some.injEq,Addr.mk.injEq] at h
        obtain⟨⟨rfl,_⟩,_⟩:=h
        exact⟨op,h2,hr,hlow,hb1⟩
    obtain⟨op,hs⟩:=hs0
    simp (disch:=omega) only [zA,zB,zC,zD,zF,zG,zH,↓reduceIte,vl,hvl]
    have hsb:=qbs hs.blk
    have hbx:H3[H.length]? = some (fbx p e b c):=hp.get (by simp)
    refine loopV2.ind (fun m r c' H'=>∃ col ws M P op,c'=nv col∧r=nv P.length∧col+m=n∧Pre (H++[fbx p e b c]) H'∧Spn cd (H++[fbx p e b c]).length sb ws op H' M∧RedTo n col M P∧M.length=rows.length∧(∀ u,LSpan M u↔LSpan rows u)) n
      ⟨0,ws,rows,[],op,rfl,rfl,by omega,hp,hs,RedTo.start hl,rfl,fun _=>Iff.rfl⟩ ?_
    clear hs hsb hbx hr hlow ha hp
    rintro m r c' H4 ⟨col,ws,M,P,op,rfl,rfl,hm,hp,hs,hr,hMl,hsp⟩ J hJ
    have hbx:H4[H.length]? = some (fbx p e b c):=hp.get (by simp)
    have hp0:=(Pre.new H _).trans hp
    have hb4:=hp0.get hb
    have hPl:=hr.len
    have hspine:=hs.spine (l:=rows.length) (m:=rows.length) hMl.symm (Nat.le_refl _)
    have hwl:=hs.len
    obtain⟨sl,si,sd,_⟩:=hspine.allV
    by_cases hcn:col<n
    · by_cases hPr:P.length<M.length
      · have hPw:P.length<ws.length:=by omega
        simp (disch:=omega) only [zA,zB,zC,zD,zF,zG,zH,↓reduceIte,hcn,sl,hPw]
        refine joinV1.via (fun r' H'=>∃ ws' M' P' op',r'=nv P'.length∧Pre (H++[fbx p e b c]) H'∧Spn cd (H++[fbx p e b c]).length sb ws' op' H' M'∧RedTo n (col+1) M' P'∧M'.length=rows.length∧(∀ u,LSpan M' u↔LSpan rows u)) ?_ ?_
        · intro J2 hJ2
          refine loopV1.ind (fun m i H'=>∃ k,i=nv k∧H'=H4∧P.length≤k∧k+m=M.length∧∀ j,P.length≤j→j<k→ent M j col=Fl.zero) (M.length-P.length) ⟨P.length,rfl,rfl,Nat.le_refl _,by omega,fun k h1 h2=>by omega⟩ ?_
          rintro m2 i8 H4 ⟨i,rfl,rfl,hi1,hi2,hi3⟩ J3 hJ3
          by_cases him:i<M.length
          · have hiw:i<ws.length:=by omega
            have hcw:col<(M.getD i []).length:=by rw [qb7 hr.width him];omega
            obtain⟨rl,ri,rd,_⟩:=(hs.row him).all Fl.zero
            by_cases he:ent M i col=Fl.zero
            · have he0:cd ((M.getD i []).getD col Fl.zero)=0:=(F.eq0 _).2 he
              simp (disch:=omega) only [zA,zB,zC,zD,zF,zG,zH,↓reduceIte,sl,si,sd,hiw,ri,rd,hcw,he0]
              refine hJ3 _ _ ⟨m2-1,by omega,i+1,rfl,rfl,by omega,by omega,fun k h1 h2=>?_⟩
              by_cases hki:k=i
              · rw [hki];exact he
              · exact hi3 k h1 (by omega)
            · have he0:¬cd ((M.getD i []).getD col Fl.zero)=0:=fun hh=>he ((F.eq0 _).1 hh)
              have hne2:¬i=ws.length:=by omega
              have hst:=hr.step him hi1 he
              have hspn:=qp4 (n:=n) hr.width hPr him he
              have hs2:=hs.set him (hs.row hPr) (hs.at_ hPr)
              have st1:=st_cell (v:=ws.getD P.length undef) hs.blk hiw (hs.row hPr).cells (hs.row hPr).one
              have ptr1:qgv (.slice (some ⟨sb,0,none⟩) rows.length rows.length) i=.pointer (some ⟨sb,i,none⟩):=by simp [qgv]
              have ptr2:qgv (.slice (some ⟨sb,0,none⟩) rows.length rows.length) P.length=.pointer (some ⟨sb,P.length,none⟩):=by simp [qgv]
              have hsbn:=hs.sn
              simp (disch:=omega) only [zA,zB,zC,zD,zF,zG,zH,↓reduceIte,sl,si,sd,hiw,hPw,ri,rd,hcw,he0,hne2]
              simp (disch:=omega) only [zA,zB,zC,zD,zF,zG,zH,↓reduceIte,ptr1,st1]
              have hp5:=hp.set (b:=sb) hs.sn (.cells (ws.set i (ws.getD P.length undef)) 31 op false)
              have hx5:=hs.keep (y:=.cells (ws.set i (ws.getD P.length undef)) 31 op false) (hs.row him)
              obtain⟨H5,hH5⟩:∃ H5,H5=H4.set sb (.cells (ws.set i (ws.getD P.length undef)) 31 op false):=⟨_,rfl⟩
              rw [←hH5] at hs2 hp5 hx5 ⊢
              have hbx5:H5[H.length]? = some (fbx p e b c):=hp5.get (by simp)
              have hb5:=((Pre.new H _).trans hp5).get hb
              obtain⟨_,ri5,rd5,_⟩:=hx5.all Fl.zero
              simp (disch:=omega) only [zA,zB,zC,zD,zF,zG,zH,↓reduceIte,hbx5,ri5,rd5,hcw]
              refine FZ.use (F.rinv _ _ hb5 he) ?_
              simp (disch:=omega) only [zA,zB,zC,zD,zF,zG,zH,↓reduceIte,hbx5]
              refine FZ.mono (rtimes_c F hb5 hx5 (by rw [qb7 hr.width him];omega)) ?_
              rintro w6 H6 ⟨hp6,ha6⟩
              have hs6:=hs2.pre hp6
              have hp06:=hp5.trans hp6
              have hrw:P.length<(ws.set i (ws.getD P.length undef)).length:=by rw [List.length_set];exact hPw
              have st2:=st_cell hs6.blk hrw ha6.row.cells ha6.row.one
              have hlo6:Lw.Lo (H++[fbx p e b c]).length w6:=fun a l c h=>Nat.le_trans hp5.len (Lw.acc_lo ha6 _ _ _ h)
              have hs7:=hs6.set (k:=P.length) (by rw [List.length_set];exact hPr) ha6.row hlo6
              have hp7:=hp06.set (b:=sb) hs.sn (.cells ((ws.set i (ws.getD P.length undef)).set P.length w6) 31 op false)
              have hfront:(M.set i (M.getD P.length [])).set P.length ((M.getD i []).map (Fl.mul (Fl.inv (ent M i col))))=qc8 P.length i col M:=by unfold qc8;rw [List.set_set]
              change Spn cd _ sb _ op _ ((M.set i (M.getD P.length [])).set P.length ((M.getD i []).map (Fl.mul (Fl.inv (ent M i col))))) at hs7
              rw [hfront] at hs7
              simp (disch:=omega) only [zA,zB,zC,zD,zF,zG,zH,↓reduceIte,si,hPw,ptr2,st2]
              obtain⟨H7,hH7⟩:∃ H7,H7=H6.set sb (.cells ((ws.set i (ws.getD P.length undef)).set P.length w6) 31 op false):=⟨_,rfl⟩
              rw [←hH7] at hs7 hp7 ⊢
              have hNl:(qc8 P.length i col M).length=M.length:=qdm
              have hNw:∀ k,k<M.length→((qc8 P.length i col M).getD k []).length=n:=fun k hk=>qhg hr.width hPr him hk
              have hEl:=qcb P.length col (qc8 P.length i col M)
              have hEg:=fun k hk=>qfk (r:=P.length) (col:=col) (M:=qc8 P.length i col M) (k:=k) hk
              obtain⟨N,hN⟩:∃ N,N=qc8 P.length i col M:=⟨_,rfl⟩
              rw [←hN] at hs7 hNl hNw hEl hEg hst hspn
              obtain⟨E,hE⟩:∃ E,E=qhh P.length col N:=⟨_,rfl⟩
              rw [←hE] at hEl hEg hst hspn
              have hNr:∀ k,k<N.length→k≠P.length→E.getD k []=lsub (N.getD k []) (ent N k col) (N.getD P.length []):=fun k hk hkr=>by rw [hEg k hk,if_neg hkr]
              have hNrr:E.getD P.length []=N.getD P.length []:=by rw [hEg _ (by omega),if_pos rfl]
              refine loopV1.nat M.length (fun k j H'=>j=nv k∧Pre (H++[fbx p e b c]) H'∧∃ us,Spn cd (H++[fbx p e b c]).length sb us op H' (E.take k++N.drop k)) ⟨rfl,hp7,_,by simpa using hs7⟩ ?_ ?_
              · rintro k j H8 hkm ⟨rfl,hp8,us,hs8⟩ J4 hJ4
                have hCl:(E.take k++N.drop k).length=M.length:=by simp;omega
                have hCk:=qk2 [] N E k (by omega)
                have hpre:=qk1 [] N E k (by omega) (by omega)
                have hul:=hs8.len
                have hku:k<us.length:=by omega
                have hPu:P.length<us.length:=by omega
                have hCr:(E.take k++N.drop k).getD P.length []=N.getD P.length []:=by
                  simp only [List.getD_eq_getElem?_getD]
                  by_cases hlt:P.length<k
                  · rw [List.getElem?_append_left (by simp;omega),List.getElem?_take_of_lt hlt]
                    simpa [List.getD_eq_getElem?_getD] using hNrr
                  · rw [List.getElem?_append_right (by simp;omega)]
                    simp only [List.length_take,List.getElem?_drop]
                    congr 2
                    omega
                obtain⟨tl,ti,td,_⟩:=(hs8.spine (l:=rows.length) (m:=rows.length) (by omega) (Nat.le_refl _)).allV
                by_cases hkr:k=P.length
                · subst hkr
                  simp (disch:=omega) only [zA,zB,zC,zD,zF,zG,zH,↓reduceIte,tl,hPu]
                  refine hJ4 _ _ ⟨rfl,hp8,us,?_⟩
                  rw [←hpre,hNrr,←hCr]
                  have:∀ (L:List (List α)) (k:Nat),k<L.length→L.set k (L.getD k [])=L:=fun L k hL=>by
                    refine List.ext_getElem (by simp) fun l h1 h2=>?_
                    by_cases hlk:k=l
                    · subst hlk;simp [List.getD_eq_getElem?_getD,List.getElem?_eq_getElem h2]
                    · simp [List.getElem_set_ne hlk]
                  rw [this _ _ (by rw [hCl];exact hkm)]
                  exact hs8
                · have hbx8:H8[H.length]? = some (fbx p e b c):=hp8.get (by simp)
                  have hb8:=((Pre.new H _).trans hp8).get hb
                  have hk8:k<(E.take k++N.drop k).length:=by omega
                  have hP8:P.length<(E.take k++N.drop k).length:=by omega
                  have hrowk:=hs8.row hk8
                  rw [hCk] at hrowk
                  have hrowr:=hs8.row hP8
                  rw [hCr] at hrowr
                  have hkw:=hNw k (by omega)
                  have hck:col<(N.getD k []).length:=by omega
                  obtain⟨_,ri8,rd8,_⟩:=hrowk.all Fl.zero
                  simp (disch:=omega) only [zA,zB,zC,zD,zF,zG,zH,↓reduceIte,tl,hku,hkr,hbx8]
                  refine joinV0.intro fun J5 hJ5=>?_
                  have b1:=hs8.ldB hku
                  have b2:=hs8.ldB hPu
                  simp (disch:=omega) only [zA,zB,zC,zD,zF,zG,zH,↓reduceIte,hbx8,b1,b2,hPu,ri8,rd8,hck]
                  refine FZ.use (F.rneg _ _ hb8) ?_
                  simp (disch:=omega) only [zA,zB,zC,zD,zF,zG,zH,↓reduceIte,hbx8,b1,b2]
                  refine FZ.mono (rtimes_c F hb8 hrowr (by rw [hNw _ hPr];omega)) ?_
                  rintro w9 H9 ⟨hp9,ha9⟩
                  have hbx9:=hp9.get hbx8
                  have hb9:=hp9.get hb8
                  have hs9:=hs8.pre hp9
                  obtain⟨tl9,ti9,td9,_⟩:=(hs9.spine (l:=rows.length) (m:=rows.length) (by omega) (Nat.le_refl _)).allV
                  have b3:=hs9.ldB hku
                  simp (disch:=omega) only [zA,zB,zC,zD,zF,zG,zH,Nat.reduceEqDiff,Nat.reduceLT,Nat.reduceLeDiff,↓reduceIte,hbx9,b3]
                  refine FZ.mono (rplus_c F hb9 (hrowk.pre hp9) ha9.row (by rw [List.length_map,hkw,hNw _ hPr]) (by omega)) ?_
                  rintro w10 H10 ⟨hp10,ha10⟩
                  have hp910:=hp9.trans hp10
                  have hs10:=hs8.pre hp910
                  rw [lsub_plus] at ha10
                  have hlo10:Lw.Lo (H++[fbx p e b c]).length w10:=fun a l c h=>Nat.le_trans (hp8.trans hp9).len (Lw.acc_lo ha10 _ _ _ h)
                  have st3:=st_cell hs10.blk hku ha10.row.cells ha10.row.one
                  have hs11:=hs10.set hk8 ha10.row hlo10
                  have ptr3:qgv (.slice (some ⟨sb,0,none⟩) rows.length rows.length) k=.pointer (some ⟨sb,k,none⟩):=by simp [qgv]
                  simp (disch:=omega) only [zA,zB,zC,zD,zF,zG,zH,↓reduceIte,ti,hku,ptr3,st3]
                  refine hJ5 _ ?_
                  simp (disch:=omega) only [zA,zB,zC,zD,zF,zG,zH,↓reduceIte]
                  refine hJ4 _ _ ⟨rfl,(hp8.trans hp910).set hs.sn _,us.set k w10,?_⟩
                  have hEk:=hNr k (by omega) hkr
                  change E.getD k []=lsub (N.getD k []) ((N.getD k []).getD col Fl.zero) (N.getD P.length []) at hEk
                  rw [←hEk,hpre] at hs11
                  exact hs11
              · rintro j H8 ⟨rfl,hp8,us,hs8⟩ J4
                rw [List.take_of_length_le (by omega),List.drop_of_length_le (by omega),List.append_nil] at hs8
                have hul:=hs8.len
                obtain⟨tl,_,_,_⟩:=(hs8.spine (l:=rows.length) (m:=rows.length) (by omega) (Nat.le_refl _)).allV
                have hnu:¬M.length<us.length:=by omega
                simp (disch:=omega) only [zA,zB,zC,zD,zF,zG,zH,↓reduceIte,tl,hnu]
                exact hJ2 _ _ ⟨us,E,P++[col],op,by simp,hp8,hs8,hst,by omega,fun u=>(hspn u).trans (hsp u)⟩
          · have hnw:¬i<ws.length:=by omega
            have hme:i=ws.length:=by omega
            simp (disch:=omega) only [zA,zB,zC,zD,zF,zG,zH,↓reduceIte,sl,hnw,hme]
            exact hJ2 _ _ ⟨ws,M,P,op,rfl,hp,hs,hr.skip fun k h1 h2=>hi3 k h1 (by omega),hMl,hsp⟩
        · rintro r' H5 ⟨ws',M',P',op',rfl,h1,h2,h3,h4,h5⟩
          simp (disch:=omega) only [zA,zB,zC,zD,zF,zG,zH,↓reduceIte]
          exact hJ _ _ _ ⟨m-1,by omega,col+1,ws',M',P',op',rfl,rfl,by omega,h1,h2,h3,h4,h5⟩
      · have hPw:¬P.length<ws.length:=by omega
        simp (disch:=omega) only [zA,zB,zC,zD,zF,zG,zH,↓reduceIte,hcn,sl,hPw]
        have hfull:=hr.full (by omega) (.inl (by omega))
        obtain⟨d1,d2⟩:=hfull.done
        have hres:M.take P.length=qbz rows:=by
          obtain⟨h1,h2,_⟩:=qb5 hl
          exact d1.unique h1 fun u=>(d2 u).trans ((hsp u).trans (h2 u).symm)
        have hPle:P.length≤rows.length:=by omega
        simp (disch:=omega) only [zA,zB,zC,zD,zF,zG,zH,↓reduceIte,qjq,hPle]
        refine⟨hp0,ws.take P.length,RowX.of_take hs.blk (by omega) hPle,?_,?_,?_⟩
        · rw [←hres]
          refine⟨by simp;omega,fun k hk=>?_⟩
          have hk':k<P.length:=by simp at hk;omega
          have e1:(ws.take P.length).getD k undef=ws.getD k undef:=by simp [List.getD_eq_getElem?_getD,List.getElem?_take_of_lt hk']
          have e2:(evr cd (M.take P.length)).getD k []=evs cd (M.getD k []):=by
            rw [show ([]:List Value)=evs cd [] from rfl,qdd]
            simp [List.getD_eq_getElem?_getD,List.getElem?_take_of_lt hk']
          rw [e1,e2]
          exact hs.row (by omega)
        · intro a l c h;cases h;have:=hs.sn;simp at this ⊢;omega
        · intro x hx a l c h;have:=hs.low x (List.mem_of_mem_take hx) a l c h;simp at this;omega
    · simp (disch:=omega) only [zA,zB,zC,zD,zF,zG,zH,↓reduceIte,hcn]
      have hfull:=hr.full (by omega) (.inr (by omega))
      obtain⟨d1,d2⟩:=hfull.done
      have hres:M.take P.length=qbz rows:=by
        obtain⟨h1,h2,_⟩:=qb5 hl
        exact d1.unique h1 fun u=>(d2 u).trans ((hsp u).trans (h2 u).symm)
      have hPle:P.length≤rows.length:=by omega
      simp (disch:=omega) only [zA,zB,zC,zD,zF,zG,zH,↓reduceIte,qjq,hPle]
      refine⟨hp0,ws.take P.length,RowX.of_take hs.blk (by omega) hPle,?_,?_,?_⟩
      · rw [←hres]
        refine⟨by simp;omega,fun k hk=>?_⟩
        have hk':k<P.length:=by simp at hk;omega
        have e1:(ws.take P.length).getD k undef=ws.getD k undef:=by simp [List.getD_eq_getElem?_getD,List.getElem?_take_of_lt hk']
        have e2:(evr cd (M.take P.length)).getD k []=evs cd (M.getD k []):=by
          rw [show ([]:List Value)=evs cd [] from rfl,qdd]
          simp [List.getD_eq_getElem?_getD,List.getElem?_take_of_lt hk']
        rw [e1,e2]
        exact hs.row (by omega)
      · intro a l c h;cases h;have:=hs.sn;simp at this ⊢;omega
      · intro x hx a l c h;have:=hs.low x (List.mem_of_mem_take hx) a l c h;simp at this;omega
end
end Go.Sim

namespace Go.Sim
open Fl
section
variable {α:Type} [Fl α] [DecidableEq α]
theorem qkc {n:Nat} {G:List (List α)} (h:LRed n G):qbz G=G:=by
  have hl:∀ x∈G,x.length=n:=fun x hx=>h.piv.1 x hx
  obtain⟨a1,a2,_⟩:=qb5 hl
  exact LRed.unique a1 h a2
def pick (n:Nat) (p:Nat→Nat) (x:List α):List α:=(List.range n).map fun j=>x.getD (p j) Fl.zero
end
end Go.Sim

namespace Go.Sim
open Fl
section
variable {α:Type} [Fl α] [DecidableEq α]
theorem LRed.len {n:Nat} {G:List (List α)} (h:LRed n G):∀ x∈G,x.length=n:=fun x hx=>h.piv.1 x hx
structure Cd (n:Nat) (G:List (List α)) (S:Vc α→Prop):Prop where
  red:LRed n G
  span:∀ u,LSpan G u↔S u
theorem Cd.self {n:Nat} {G:List (List α)} (h:LRed n G):Cd n G (LSpan G):=⟨h,fun _=>Iff.rfl⟩
end
end Go.Sim

namespace Go.Sim
open Go Go.Proofs
theorem Lw.RowLo.mono {m n:Nat} {H:AH} {v:Value} {css:List (List Value)} (h:Lw.RowLo n H v css) (hm:m≤n):Lw.RowLo m H v css:=by
  obtain⟨vs,h1,h2,h3,h4⟩:=h
  exact⟨vs,h1,h2,fun a l c e=>Nat.le_trans hm (h3 a l c e),fun x hx a l c e=>Nat.le_trans hm (h4 x hx a l c e)⟩
theorem Lw.RowLo.one {n:Nat} {H:AH} {v:Value} {css:List (List Value)} (h:Lw.RowLo n H v css):one v=true:=by obtain⟨_,h,_⟩:=h;exact h.1.one
theorem Lw.RowLo.fill {n:Nat} {H:AH} {v:Value} {css:List (List Value)} (h:Lw.RowLo n H v css):∀ (c:List Value) (off:Nat) (pl:List (Nat×Nat)) (vs:List Value),off<c.length→qb3 c ((off,1) :: pl) (v :: vs)=qb3 (c.set off v) pl vs:=by obtain⟨_,h,_⟩:=h;exact h.1.fill
theorem RowR.one' {H:AH} {v:Value} {css:List (List Value)} (h:RowR H v css):one v=true:=by obtain⟨_,h,_⟩:=h;exact h.1.one
end Go.Sim

namespace Go.Sim
open Go Go.Proofs
section
variable {α:Type} [Fl α] [DecidableEq α] {cd:α→Nat} {p e b c q:Nat} {blk:AB} {H:AH}
theorem evr_get {G:List (List α)} (k:Nat):(evr cd G).getD k []=evs cd (G.getD k []):=by
  rw [show ([]:List Value)=evs cd [] from rfl,qdd]
theorem xp_fn1 {g:Nat} {x:Value}:qbc (.fn g 0 1) [x]=some (.func (.func g) #[] #[x]):=rfl
theorem xp_fn2 {g:Nat} {x y:Value}:qbc (.fn g 0 2) [x,y]=some (.func (.func g) #[] #[x,y]):=rfl
end
end Go.Sim

namespace Go.Sim
open Go Go.Proofs
section
variable {α:Type} [Fl α] [DecidableEq α] {cd:α→Nat} {p e b c q:Nat} {blk:AB} {H:AH}
theorem F2.add (F:FOK α cd p e b c 2 blk) (x y:α):cd (Fl.add x y)=cd x ^^^ cd y:=by
  have h01:∀ z:α,z=Fl.zero∨z=Fl.one:=fun z=>by
    have:=F.lt z
    have h:cd z=0∨cd z=1:=by omega
    rcases h with h|h
    · exact .inl ((F.eq0 z).1 h)
    · exact .inr (F.inj _ _ (by rw [h,F.one]))
  have h11:Fl.add (Fl.one:α) Fl.one=Fl.zero:=by
    rcases h01 (Fl.add Fl.one Fl.one) with h|h
    · exact h
    · exfalso
      have h2:Fl.add (Fl.one:α) Fl.one=Fl.add Fl.one Fl.zero:=by rw [h,Fl.add_zero]
      exact Fl.one_ne (Fl.add_left_cancel h2)
  rcases h01 x with rfl|rfl<;>rcases h01 y with rfl|rfl
  · rw [Fl.add_zero,F.zero];rfl
  · rw [Fl.zero_add,F.zero,F.one];rfl
  · rw [Fl.add_zero,F.zero,F.one];rfl
  · rw [h11,F.zero,F.one];rfl
end
end Go.Sim

namespace Go.Sim
open Go Go.Proofs
section
variable {α:Type} [Fl α] [DecidableEq α] {cd:α→Nat} {p e b c q:Nat} {blk:AB} {H:AH}
theorem xnew_makeB {a:Nat} (h:1*a≤281474976710656) (h2:a≤9223372036854775807):xnew (.make (.bool false) 1 1 4) [nv a,nv a]=some ((List.range a).map (fun _=>.bool false),4,fun b=>.slice (some ⟨b,0,none⟩) a a):=by
  simp only [xnew]
  rw [if_pos ⟨by omega,by omega,by omega,by omega⟩]
  simp only [Int.toNat_natCast,Nat.mul_one]
  congr 2
  unfold qqz madeCells
  refine List.ext_getElem (by simp) fun i h1 h2=>?_
  simp [Value.cells,Nat.mod_one]
def tab (n:Nat) (f:Nat→Value):List Value:=(List.range n).map f
theorem qg9 (n:Nat) (f:Nat→Value):(tab n f).length=n:=by simp [tab]
theorem tab_set {n:Nat} {f g:Nat→Value} {k:Nat} {v:Value} (hk:k<n) (hv:g k=v) (h:∀ j,j<n→j≠k→g j=f j):(tab n f).set k v=tab n g:=by
  refine List.ext_getElem (by simp [tab]) fun i h1 h2=>?_
  have hi:i<n:=by simpa [tab] using h2
  by_cases hik:i=k
  · subst hik;simp [tab,hv]
  · rw [List.getElem_set_ne (Ne.symm hik)];simp [tab,h i hi hik]
theorem qgt {n:Nat} {f g:Nat→Value} (h:∀ j,j<n→f j=g j):tab n f=tab n g:=List.map_congr_left fun j hj=>h j (List.mem_range.1 hj)
theorem tab_ld {n bl k:Nat} {f:Nat→Value} {et:TypeId} {op:Option Nat} {ro:Bool} (h:H[bl]? = some (.cells (tab n f) et op ro)) (hk:k<n):qc6 none H[bl]? k=some (f k):=by
  rw [h];simp [qc6,qdj,tab,hk]
theorem tab_ld2 {n k:Nat} {f:Nat→Value} {et:TypeId} {op:Option Nat} {ro:Bool} (hk:k<n):qc6 none (some (.cells (tab n f) et op ro)) k=some (f k):=by
  simp [qc6,qdj,tab,hk]
theorem qp3 {n bl k:Nat} {f g:Nat→Value} {et:TypeId} {op:Option Nat} {v:Value} (h:H[bl]? = some (.cells (tab n f) et op false)) (hk:k<n) (hc:qbt v=[v]) (h1:one v=true) (hv:g k=v) (hg:∀ j,j<n→j≠k→g j=f j) :
    stB 1 H (some (.cells (tab n f) et op false)) bl k v=some (undef,H.set bl (.cells (tab n g) et op false)):=by
  rw [qfq hc h1 (by rw [qg9];exact hk),tab_set hk hv hg]
theorem qpj (n:Nat):(List.replicate n 0).map nv=tab n fun _=>nv 0:=by
  refine List.ext_getElem (by simp [tab]) fun i h1 h2=>by simp [tab]
end
end Go.Sim

namespace Go.Sim
open Go Go.Proofs
theorem Lw.RowLo.isSl {n:Nat} {H:AH} {v:Value} {css:List (List Value)} (h:Lw.RowLo n H v css):isSl v=true:=by obtain⟨_,h,_⟩:=h;exact h.1.isSl
end Go.Sim

namespace Go.Sim
open Go Go.Proofs
abbrev bv (k:Nat):Value:=.int .u8 (k:Int)
section
variable {α:Type} [Fl α] [DecidableEq α] {cd:α→Nat} {p e b c q:Nat} {blk:AB} {H:AH}
theorem bv_ld {v:Value} {us:List Nat} (hv:Row H v (us.map bv)) {k:Nat} (hk:k<us.length):qbh none H [qgv v k]=some (bv (us.getD k 0)):=by
  have:=hv.ldM 0 hk;exact this
theorem getD_lt {us:List Nat} {m k:Nat} (h:∀ u∈us,u<m) (hk:k<us.length):us.getD k 0<m:=h _ (getD_mem hk)
end
end Go.Sim

namespace Go.Sim
open Go Go.Proofs
section
variable {α:Type} [Fl α] [DecidableEq α] {cd:α→Nat} {p e b c q:Nat} {blk:AB} {H:AH}
theorem zero_c {n:Nat} (hn:n≤1000):FN Tryz.prog 60 [nv n] H (fun r H'=>r=.slice (some ⟨H.length,0,none⟩) n n∧H'=H++[.cells ((List.replicate n 0).map nv) 3 none false]):=by
  refine g60_of ?_
  unfold g60
  have hmk:8*n≤281474976710656:=by omega
  simp (disch:=omega) only [zA,zB,zC,zD,zF,zG,zH,↓reduceIte,hmk,qds]
theorem over_c (Q:FQ α cd p e q blk):FN Tryz.prog 62 [nv q] H (fun r H'=>Pre H H'∧∃ b,r=fldv p e b e e∧H'[b]? = some blk):=by
  refine g62_of ?_
  unfold g62
  simp (disch:=omega) only [zA,zB,zC,zD,zF,zG,zH,↓reduceIte]
  refine FZ.use (Q.rmake _) ?_
  have s3:=qck (H:=H++[.cells [nv 0,nv 0,.slice none 0 0] 76 none false,blk,.cells [nv 0,nv 0,.slice none 0 0] 76 none false]) (bl:=H.length+2) (x:=nv p) (y:=nv e) (z:=.slice (some ⟨H.length+1,0,none⟩) e e) (c0:=nv 0) (c1:=nv 0) (c2:=.slice none 0 0) (e:=76) (op:=none) rfl rfl rfl
  have e3:(H++[.cells [nv 0,nv 0,.slice none 0 0] 76 none false,blk,.cells [nv 0,nv 0,.slice none 0 0] 76 none false]).set (H.length+2) (.cells [nv p,nv e,.slice (some ⟨H.length+1,0,none⟩) e e] 76 none false)=H++[.cells [nv 0,nv 0,.slice none 0 0] 76 none false,blk,fbx p e (H.length+1) e]:=by
    rw [List.set_append_right _ _ (by omega)];simp
  rw [e3] at s3
  have s4:=qck (H:=H++[.cells [nv 0,nv 0,.slice none 0 0] 76 none false,blk,fbx p e (H.length+1) e]) (bl:=H.length) (x:=nv p) (y:=nv e) (z:=.slice (some ⟨H.length+1,0,none⟩) e e) (c0:=nv 0) (c1:=nv 0) (c2:=.slice none 0 0) (e:=76) (op:=none) rfl rfl rfl
  have e4:(H++[.cells [nv 0,nv 0,.slice none 0 0] 76 none false,blk,fbx p e (H.length+1) e]).set H.length (.cells [nv p,nv e,.slice (some ⟨H.length+1,0,none⟩) e e] 76 none false)=H++[fbx p e (H.length+1) e,blk,fbx p e (H.length+1) e]:=by
    rw [List.set_append_right _ _ (by omega)];simp
  rw [e4] at s4
  simp (disch:=omega) only [zA,zB,zC,zD,zF,zG,zH,↓reduceIte,s3,s4]
  exact⟨Pre.new _ _,H.length+1,rfl,by simp⟩
theorem rem8 {u m:Nat} (hm:m≠0):xbin .rem 0 (bv u) (.int .u8 (m:Int))=some (bv (u % m)):=qjw hm
theorem ix6 {b j:Nat} (hj:j<6):qbc (.ixS 1) [.slice (some ⟨b,0,none⟩) 6 6,bv j]=some (.pointer (some ⟨b,j,none⟩)):=by
  have:j=0∨j=1∨j=2∨j=3∨j=4∨j=5:=by omega
  rcases this with rfl|rfl|rfl|rfl|rfl|rfl<;>rfl
def qqw (j:Nat):Nat:=[8,5,4,3,2,2].getD j 0
theorem ld6 {j:Nat} (hj:j<6):qc6 none (some (.cells [nv 2,nv 3,nv 4,nv 5,nv 7,nv 8] 3 none false)) j=some (nv (Pf.ordM j)):=by
  have:j=0∨j=1∨j=2∨j=3∨j=4∨j=5:=by omega
  rcases this with rfl|rfl|rfl|rfl|rfl|rfl<;>rfl
theorem ld6' {j:Nat} (hj:j<6):qc6 none (some (.cells [nv 8,nv 5,nv 4,nv 3,nv 2,nv 2] 3 none false)) j=some (nv (qqw j)):=by
  have:j=0∨j=1∨j=2∨j=3∨j=4∨j=5:=by omega
  rcases this with rfl|rfl|rfl|rfl|rfl|rfl<;>rfl
theorem most_le {j:Nat} (hj:j<6):qqw j≤8∧Pf.ordM j≤8∧2≤Pf.ordM j:=by
  have:j=0∨j=1∨j=2∨j=3∨j=4∨j=5:=by omega
  rcases this with rfl|rfl|rfl|rfl|rfl|rfl<;>decide
abbrev rawv (k n m:Nat) (x:Value):Value:=.agg [bv k,bv n,bv m,x].toArray
end
end Go.Sim

namespace Go.Sim
open Go Go.Proofs
def RowSt (S:Nat→Prop) (H:AH) (v:Value) (css:List (List Value)):Prop:=∀ H':AH,(∀ b,b<H.length→¬S b→H'[b]? = H[b]?)→RowR H' v css
section
variable {S:Nat→Prop} {H H2:AH} {v:Value} {css:List (List Value)}
theorem RowSt.now (h:RowSt S H v css):RowR H v css:=h H fun _ _ _=>rfl
end
end Go.Sim

set_option maxRecDepth 100000
namespace Go.Sim
open Go Go.Proofs
local instance coZTlA:Coe AH Value:=⟨fun H=>.pointer (some ⟨H.length,0,none⟩)⟩
def g53 (c0:Value) (H:AH) (R:Value→AH→Prop):Prop:=
 @letH (H++[.cells (qbt c0) 29 none false]) ⟨fun H1 =>
 @qbb (qbc (.fld 2) [H]) ⟨fun v4 =>
 @qbb (qbh none H1 [v4]) ⟨fun v5 =>
 @qbb (qbc .lenS [v5]) ⟨fun v6 =>
 @loopV2 (nv 1) (nv 0) H1 ⟨fun n3 v7 H2 K1 =>
 @qbb (xbin .lss 0 v7 v6) ⟨fun v8 =>
 @qbr v8 ⟨fun q=>if q=true then @qbb (qbc (.fld 0) [H]) ⟨fun v10 =>
 @qbb (qbh none H2 [v10]) ⟨fun v11 =>
 @qbb (xbin .mul 0 n3 v11) ⟨fun v12 =>
 @qbb (xbin .gtr 0 v12 (nv 4096)) ⟨fun v14 =>
 @qbf (asNB v14) (fun J2=>J2 v12 H2) H2 ⟨fun v16 H3 =>
 @qbf (asNB v14) (fun J3=>@qbb (xbin .lss 0 v16 (nv 1)) ⟨fun v17 =>
 J3 v17 H3⟩) H3 ⟨fun v17a H4 =>
 @qcd v14 (.bool true) v17a ⟨fun v18 =>
 @qbr v18 ⟨fun q=>if q=true then R (nv 4097) H4 else
 @qbb (xbin .add 0 v7 (nv 1)) ⟨fun v19 =>
 K1 v12 v19 H4⟩⟩⟩⟩⟩⟩⟩⟩⟩ else
 R n3 H2⟩⟩⟩⟩⟩⟩⟩
theorem g53_of {c0:Value} {H:AH} {R:Value→AH→Prop} (h:g53 c0 H R):FN Tryz.prog 53 [c0] H R:=
  FN.of_XM (ms:=[(4,[3,7])]) qbq (cast (by kernel_rfl) h)
def g56 (q0 n1 w2:Value) (H:AH) (R:Value→AH→Prop):Prop:=
 @letH (H++[.cells [.slice none 0 0,nv 0] 66 none false]) ⟨fun H1 =>
 @cG 105 [q0,n1,w2] H1 ⟨fun v13 H2 =>
 @qbb (qbc (.ext 0) [v13]) ⟨fun v14 =>
 @qbb (qbc (.ext 1) [v13]) ⟨fun v15 =>
 @qd5 (qb3 [.slice none 0 0,nv 0] [(0,1),(1,1)] [v14,v15]) ⟨fun v18 =>
 @qb2 (xact (.st 2) H2 [H,(.agg v18.toArray)]) ⟨fun _v H3 =>
 @qbb (qbh (some 2) H3 [H]) ⟨fun r0=>R r0 H3⟩⟩⟩⟩⟩⟩⟩
theorem g56_of {q0 n1 w2:Value} {H:AH} {R:Value→AH→Prop} (h:g56 q0 n1 w2 H R):FN Tryz.prog 56 [q0,n1,w2] H R:=
  FN.of_XM (ms:=[]) qbq (cast (by kernel_rfl) h)
def g59 (a0 b1:Value) (H:AH) (R:Value→AH→Prop):Prop:=
 @qbb (qbc .lenS [a0]) ⟨fun v7 =>
 @qbb (qbc .lenS [b1]) ⟨fun v9 =>
 @qbb (xbin .neq 0 v7 v9) ⟨fun v10 =>
 @qbr v10 ⟨fun q=>if q=true then R (.bool false) H else
 @loopV1 (nv 0) H ⟨fun i5 H1 K1 =>
 @qbb (qbc .lenS [a0]) ⟨fun v13 =>
 @qbb (xbin .lss 0 i5 v13) ⟨fun v14 =>
 @qbr v14 ⟨fun q=>if q=true then @qbb (qbc (.ixS 1) [a0,i5]) ⟨fun v19 =>
 @qbb (qbh none H1 [v19]) ⟨fun v20 =>
 @qbb (qbc (.ixS 1) [b1,i5]) ⟨fun v23 =>
 @qbb (qbh none H1 [v23]) ⟨fun v24 =>
 @qbb (xbin .neq 0 v20 v24) ⟨fun v25 =>
 @qbr v25 ⟨fun q=>if q=true then R (.bool false) H1 else
 @qbb (xbin .add 0 i5 (nv 1)) ⟨fun v16 =>
 K1 v16 H1⟩⟩⟩⟩⟩⟩⟩ else
 R (.bool true) H1⟩⟩⟩⟩⟩⟩⟩⟩
theorem g59_of {a0 b1:Value} {H:AH} {R:Value→AH→Prop} (h:g59 a0 b1 H R):FN Tryz.prog 59 [a0,b1] H R:=
  FN.of_XM (ms:=[(6,[5])]) qbq (cast (by kernel_rfl) h)
def g100 (c0:Value) (H:AH) (R:Value→AH→Prop):Prop:=
 @letH (H++[.cells (qbt c0) 29 none false]) ⟨fun H1 =>
 @qbb (qbh (some 3) H1 [H]) ⟨fun v4 =>
 @cG 38 [v4] H1 ⟨fun v5 H2 =>
 @qbb (eun .not v5) ⟨fun v6 =>
 @qbr v6 ⟨fun q=>if q=true then R (nv 1) H2 else
 @qbb (qbh (some 3) H2 [H]) ⟨fun v8 =>
 @cG 53 [v8] H2 ⟨fun v9 H3 =>
 @qbb (xbin .gtr 0 v9 (nv 4096)) ⟨fun v10 =>
 @qbr v10 ⟨fun q=>if q=true then R (nv 2) H3 else
 R (nv 0) H3⟩⟩⟩⟩⟩⟩⟩⟩⟩
theorem g100_of {c0:Value} {H:AH} {R:Value→AH→Prop} (h:g100 c0 H R):FN Tryz.prog 100 [c0] H R:=
  FN.of_XM (ms:=[]) qbq (cast (by kernel_rfl) h)
def g101 (c0:Value) (H:AH) (R:Value→AH→Prop):Prop:=
 @letH (H++[.cells (qbt c0) 29 none false]) ⟨fun H1 =>
 @qbb (qbc (.fld 0) [H]) ⟨fun v6 =>
 @qbb (qbh none H1 [v6]) ⟨fun v7 =>
 @cG 94 [v7] H1 ⟨fun v8 H2 =>
 @qbb (qbc (.ext 0) [v8]) ⟨fun v9 =>
 @qbb (qbc (.ext 1) [v8]) ⟨fun v10 =>
 @letH (H2++[.cells [nv 0,nv 0,.slice none 0 0] 96 none false]) ⟨fun H3 =>
 @qb2 (xact (.st 3) H3 [H2,v9]) ⟨fun _v H4 =>
 @qbb (qbc (.fn 152 0 2) [H,H2]) ⟨fun v11 =>
 R v11 H4⟩⟩⟩⟩⟩⟩⟩⟩⟩
theorem g101_of {c0:Value} {H:AH} {R:Value→AH→Prop} (h:g101 c0 H R):FN Tryz.prog 101 [c0] H R:=
  FN.of_XM (ms:=[]) qbq (cast (by kernel_rfl) h)
def g103 (w0:Value) (H:AH) (R:Value→AH→Prop):Prop:=
 @qbb (qbc .lenS [w0]) ⟨fun v7 =>
 @loopV2 (nv 0) (nv 0) H ⟨fun n3 v8 H1 K1 =>
 @qbb (xbin .lss 0 v8 v7) ⟨fun v9 =>
 @qbr v9 ⟨fun q=>if q=true then @qbb (qbc (.ixS 1) [w0,v8]) ⟨fun v10 =>
 @qbb (qbh none H1 [v10]) ⟨fun v11 =>
 @qbb (xbin .neq 0 v11 (nv 0)) ⟨fun v13 =>
 @qbr v13 ⟨fun q=>if q=true then @qbb (xbin .add 0 n3 (nv 1)) ⟨fun v15 =>
 @qbb (xbin .add 0 v8 (nv 1)) ⟨fun v16 =>
 K1 v15 v16 H1⟩⟩ else
 @qbb (xbin .add 0 v8 (nv 1)) ⟨fun v16a =>
 K1 n3 v16a H1⟩⟩⟩⟩⟩ else
 R n3 H1⟩⟩⟩⟩
theorem g103_of {w0:Value} {H:AH} {R:Value→AH→Prop} (h:g103 w0 H R):FN Tryz.prog 103 [w0] H R:=
  FN.of_XM (ms:=[(4,[3,8])]) qbq (cast (by kernel_rfl) h)
def g105 (q0 n1 w2:Value) (H:AH) (R:Value→AH→Prop):Prop:=
 @cG 154 [q0,n1] H ⟨fun v18 H1 =>
 @qbb (eun .not v18) ⟨fun v19 =>
 @qbr v19 ⟨fun q=>if q=true then R (.tuple [.slice none 0 0,nv 1].toArray) H1 else
 @cG 157 [q0,n1,nv 30] H1 ⟨fun v22 H2 =>
 @qbb (eun .not v22) ⟨fun v23 =>
 @qbr v23 ⟨fun q=>if q=true then R (.tuple [.slice none 0 0,nv 2].toArray) H2 else
 @qbb (qbc .lenS [w2]) ⟨fun v25 =>
 @qbb (xbin .add 0 n1 (nv 1)) ⟨fun v27 =>
 @qbb (xbin .neq 0 v25 v27) ⟨fun v28 =>
 @qbr v28 ⟨fun q=>if q=true then R (.tuple [.slice none 0 0,nv 1].toArray) H2 else
 @cG 158 [q0,n1] H2 ⟨fun v31 H3 =>
 @qbb (qbc .lenS [w2]) ⟨fun v33 =>
 @loopV2 (nv 0) (nv 0) H3 ⟨fun m9 v34 H4 K1 =>
 @qbb (xbin .lss 0 v34 v33) ⟨fun v35 =>
 @qbr v35 ⟨fun q=>if q=true then @qbb (qbc (.ixS 1) [w2,v34]) ⟨fun v36 =>
 @qbb (qbh none H4 [v36]) ⟨fun v37 =>
 @qbb (xbin .lss 0 v37 (nv 0)) ⟨fun v39 =>
 @qbf (asNB v39) (fun J2=>J2 v37 H4) H4 ⟨fun v41 H5 =>
 @qbf (asNB v39) (fun J3=>J3 v31 H5) H5 ⟨fun v42 H6 =>
 @qbf (asNB v39) (fun J4=>J4 m9 H6) H6 ⟨fun v43 H7 =>
 @qbf (asNB v39) (fun J5=>@qbb (xbin .sub 0 v42 v43) ⟨fun v44 =>
 J5 v44 H7⟩) H7 ⟨fun v44a H8 =>
 @qbf (asNB v39) (fun J6=>@qbb (xbin .gtr 0 v41 v44a) ⟨fun v45 =>
 J6 v45 H8⟩) H8 ⟨fun v45a H9 =>
 @qcd v39 (.bool true) v45a ⟨fun v46 =>
 @qbr v46 ⟨fun q=>if q=true then R (.tuple [.slice none 0 0,nv 1].toArray) H9 else
 @qbb (xbin .add 0 m9 v37) ⟨fun v49 =>
 @qbb (xbin .add 0 v34 (nv 1)) ⟨fun v50 =>
 K1 v49 v50 H9⟩⟩⟩⟩⟩⟩⟩⟩⟩⟩⟩⟩ else
 @qbb (xbin .eql 0 m9 (nv 0)) ⟨fun v52 =>
 @qbr v52 ⟨fun q=>if q=true then R (.tuple [.slice none 0 0,nv 1].toArray) H4 else
 @qbb (xbin .add 0 n1 (nv 1)) ⟨fun v54 =>
 @bindN (xnew (.make (nv 0) 1 8 3) [v54,v54]) ⟨fun cv55 ev55 mkv55=>@letH (H4++[.cells cv55 ev55 none false]) ⟨fun H10 =>
 @qbb (qbc .lenS [(mkv55 H4.length)]) ⟨fun v57 =>
 @loopV1 (nv 0) H10 ⟨fun v58 H11 K7 =>
 @qbb (xbin .lss 0 v58 v57) ⟨fun v59 =>
 @qbr v59 ⟨fun q=>if q=true then @qbb (qbc .lenS [w2]) ⟨fun v62 =>
 @loopV1 (nv 0) H11 ⟨fun v63 H12 K8 =>
 @qbb (xbin .lss 0 v63 v62) ⟨fun v64 =>
 @qbr v64 ⟨fun q=>if q=true then @qbb (qbc (.ixS 1) [w2,v63]) ⟨fun v66 =>
 @qbb (qbh none H12 [v66]) ⟨fun v67 =>
 @qbb (qbc (.ixS 1) [(mkv55 H4.length),v58]) ⟨fun v70 =>
 @qbb (qbh none H12 [v70]) ⟨fun v71 =>
 @cG 159 [q0,n1,v58,v63] H12 ⟨fun v77 H13 =>
 (chkX [3] (⟨3,none,[v70],v71⟩ :: []) H13∧@qbb (xbin .mul 0 v67 v77) ⟨fun v78 =>
 @qbb (xbin .add 0 v71 v78) ⟨fun v79 =>
 @qbb (qbc (.ixS 1) [(mkv55 H4.length),v58]) ⟨fun v80 =>
 @qb2 (xact (.st 1) H13 [v80,v79]) ⟨fun _v H14 =>
 @qbb (xbin .add 0 v63 (nv 1)) ⟨fun v81 =>
 K8 v81 H14⟩⟩⟩⟩⟩)⟩⟩⟩⟩⟩ else
 @qbb (qbc (.ixS 1) [(mkv55 H4.length),v58]) ⟨fun v84 =>
 @qbb (qbh none H12 [v84]) ⟨fun v85 =>
 @qbb (xbin .lss 0 v85 (nv 0)) ⟨fun v86 =>
 @qbf (asNB v86) (fun J9=>J9 (mkv55 H4.length) H12) H12 ⟨fun v88 H15 =>
 @qbf (asNB v86) (fun J10=>J10 v58 H15) H15 ⟨fun v89 H16 =>
 @qbf (asNB v86) (fun J11=>@qbb (qbc (.ixS 1) [v88,v89]) ⟨fun v90 =>
 J11 v90 H16⟩) H16 ⟨fun v90a H17 =>
 @qbf (asNB v86) (fun J12=>@qbb (qbh none H17 [v90a]) ⟨fun v91 =>
 J12 v91 H17⟩) H17 ⟨fun v91a H18 =>
 @qbf (asNB v86) (fun J13=>J13 m9 H18) H18 ⟨fun v92 H19 =>
 @qbf (asNB v86) (fun J14=>@qbb (xbin .rem 0 v91a v92) ⟨fun v93 =>
 J14 v93 H19⟩) H19 ⟨fun v93a H20 =>
 @qbf (asNB v86) (fun J15=>@qbb (xbin .neq 0 v93a (nv 0)) ⟨fun v94 =>
 J15 v94 H20⟩) H20 ⟨fun v94a H21 =>
 @qcd v86 (.bool true) v94a ⟨fun v95 =>
 @qbr v95 ⟨fun q=>if q=true then R (.tuple [.slice none 0 0,nv 6].toArray) H21 else
 @qbb (qbc (.ixS 1) [(mkv55 H4.length),v58]) ⟨fun v98 =>
 @qbb (qbh none H21 [v98]) ⟨fun v99 =>
 @qbb (xbin .quo 0 v99 m9) ⟨fun v101 =>
 @qbb (qbc (.ixS 1) [(mkv55 H4.length),v58]) ⟨fun v102 =>
 @qb2 (xact (.st 1) H21 [v102,v101]) ⟨fun _v H22 =>
 @qbb (xbin .add 0 v58 (nv 1)) ⟨fun v103 =>
 K7 v103 H22⟩⟩⟩⟩⟩⟩⟩⟩⟩⟩⟩⟩⟩⟩⟩⟩⟩⟩⟩⟩⟩⟩ else
 R (.tuple [(mkv55 H4.length),nv 0].toArray) H11⟩⟩⟩⟩⟩⟩⟩⟩⟩⟩⟩⟩⟩⟩⟩⟩⟩⟩⟩⟩⟩⟩⟩⟩
theorem g105_of {q0 n1 w2:Value} {H:AH} {R:Value→AH→Prop} (h:g105 q0 n1 w2 H R):FN Tryz.prog 105 [q0,n1,w2] H R:=
  FN.of_XM (ms:=[(13,[9,34]),(27,[58]),(34,[63])]) qbq (cast (by kernel_rfl) h)
def g152 (yield0 v1 v2:Value) (H:AH) (R:Value→AH→Prop):Prop:=
 @letH (H++[.cells (qbt yield0) 141 none false]) ⟨fun H1 =>
 @letH (H1++[.cells [.nilFunc] 147 none false]) ⟨fun H2 =>
 @qbb (qbc (.fn 153 0 4) [v1,H,v2,H1]) ⟨fun v5 =>
 @qb2 (xact (.st 1) H2 [H1,v5]) ⟨fun _v H3 =>
 @qbb (qbh none H3 [H1]) ⟨fun v6 =>
 @qbb (qbc (.fld 1) [v1]) ⟨fun v7 =>
 @qbb (qbh none H3 [v7]) ⟨fun v8 =>
 @bindN (xnew (.make (nv 0) 1 8 3) [v8,v8]) ⟨fun cv9 ev9 mkv9=>@letH (H3++[.cells cv9 ev9 none false]) ⟨fun H4 =>
 @qh6 Tryz.prog [v6,nv 0,(mkv9 H3.length)] H4 ⟨fun v10 H5 =>
 R (.tuple [].toArray) H5⟩⟩⟩⟩⟩⟩⟩⟩⟩⟩
theorem g152_of {yield0 v1 v2:Value} {H:AH} {R:Value→AH→Prop} (h:g152 yield0 v1 v2 H R):FN Tryz.prog 152 [yield0,v1,v2] H R:=
  FN.of_XM (ms:=[]) qbq (cast (by kernel_rfl) h)
def g153 (i0 w1 v2 v3 v4 v5:Value) (H:AH) (R:Value→AH→Prop):Prop:=
 @qbb (qbc (.fld 2) [v2]) ⟨fun v12 =>
 @qbb (qbh none H [v12]) ⟨fun v13 =>
 @qbb (qbc .lenS [v13]) ⟨fun v14 =>
 @qbb (xbin .eql 0 i0 v14) ⟨fun v15 =>
 @qbr v15 ⟨fun q=>if q=true then @qbb (qbh none H [v3]) ⟨fun v16 =>
 @qh6 Tryz.prog [v16,w1] H ⟨fun v18 H1 =>
 R v18 H1⟩⟩ else
 @cG 102 [w1] H ⟨fun v20 H2 =>
 @qbb (qbc (.fld 0) [v2]) ⟨fun v21 =>
 @qbb (qbh none H2 [v21]) ⟨fun v22 =>
 @loopV1 (nv 0) H2 ⟨fun v23 H3 K1 =>
 @qbb (xbin .lss 0 v23 v22) ⟨fun v24 =>
 @qbr v24 ⟨fun q=>if q=true then @qb2 (xact (.cpy 1) H3 [v20,w1]) ⟨fun v28 H4 =>
 @qbb (qbh (some 3) H4 [v4]) ⟨fun v29 =>
 @qbb (qbc (.fld 2) [v2]) ⟨fun v32 =>
 @qbb (qbh none H4 [v32]) ⟨fun v33 =>
 @qbb (qbc (.ixS 1) [v33,i0]) ⟨fun v35 =>
 @qbb (qbh none H4 [v35]) ⟨fun v36 =>
 @cG 95 [v29,v20,v23,v36] H4 ⟨fun v37 H5 =>
 @qbb (qbh none H5 [v5]) ⟨fun v38 =>
 @qbb (xbin .add 0 i0 (nv 1)) ⟨fun v40 =>
 @qh6 Tryz.prog [v38,v40,v20] H5 ⟨fun v42 H6 =>
 @qbb (eun .not v42) ⟨fun v43 =>
 @qbr v43 ⟨fun q=>if q=true then R (.bool false) H6 else
 @qbb (xbin .add 0 v23 (nv 1)) ⟨fun v44 =>
 K1 v44 H6⟩⟩⟩⟩⟩⟩⟩⟩⟩⟩⟩⟩⟩ else
 R (.bool true) H3⟩⟩⟩⟩⟩⟩⟩⟩⟩⟩⟩
theorem g153_of {i0 w1 v2 v3 v4 v5:Value} {H:AH} {R:Value→AH→Prop} (h:g153 i0 w1 v2 v3 v4 v5 H R):FN Tryz.prog 153 [i0,w1,v2,v3,v4,v5] H R:=
  FN.of_XM (ms:=[(7,[23])]) qbq (cast (by kernel_rfl) h)
def g154 (q0 n1:Value) (H:AH) (R:Value→AH→Prop):Prop:=
 @qbb (xbin .geq 0 q0 (nv 2)) ⟨fun v6 =>
 @qbf (asB v6) (fun J1=>J1 q0 H) H ⟨fun v8 H1 =>
 @qbf (asB v6) (fun J2=>@qbb (xbin .leq 0 v8 (nv 16)) ⟨fun v9 =>
 J2 v9 H1⟩) H1 ⟨fun v9a H2 =>
 @qcd v6 v9a (.bool false) ⟨fun v10 =>
 @qbf (asB v10) (fun J3=>J3 n1 H2) H2 ⟨fun v12 H3 =>
 @qbf (asB v10) (fun J4=>@qbb (xbin .geq 0 v12 (nv 0)) ⟨fun v13 =>
 J4 v13 H3⟩) H3 ⟨fun v13a H4 =>
 @qcd v10 v13a (.bool false) ⟨fun v14 =>
 @qbf (asB v14) (fun J5=>J5 n1 H4) H4 ⟨fun v16 H5 =>
 @qbf (asB v14) (fun J6=>@qbb (xbin .leq 0 v16 (nv 24)) ⟨fun v17 =>
 J6 v17 H5⟩) H5 ⟨fun v17a H6 =>
 @qcd v14 v17a (.bool false) ⟨fun v18 =>
 R v18 H6⟩⟩⟩⟩⟩⟩⟩⟩⟩⟩
theorem g154_of {q0 n1:Value} {H:AH} {R:Value→AH→Prop} (h:g154 q0 n1 H R):FN Tryz.prog 154 [q0,n1] H R:=
  FN.of_XM (ms:=[]) qbq (cast (by kernel_rfl) h)
def g157 (q0 n1 limit2:Value) (H:AH) (R:Value→AH→Prop):Prop:=
 @loopV2 (.int .u64 1) (nv 0) H ⟨fun out7 v11 H1 K1 =>
 @qbb (xbin .lss 0 v11 n1) ⟨fun v12 =>
 @qbr v12 ⟨fun q=>if q=true then @qbb (qbc (.conv .u64) [q0]) ⟨fun v16 =>
 @cG 193 [out7,v16] H1 ⟨fun v17 H2 =>
 @qbb (qbc (.ext 0) [v17]) ⟨fun v18 =>
 @qbb (qbc (.ext 1) [v17]) ⟨fun v19 =>
 @qbb (xbin .neq 0 v18 (.int .u64 0)) ⟨fun v21 =>
 @qbf (asNB v21) (fun J2=>J2 v19 H2) H2 ⟨fun v23 H3 =>
 @qbf (asNB v21) (fun J3=>J3 limit2 H3) H3 ⟨fun v24 H4 =>
 @qbf (asNB v21) (fun J4=>@qbb (xbin .shl 0 (.int .u64 1) v24) ⟨fun v25 =>
 J4 v25 H4⟩) H4 ⟨fun v25a H5 =>
 @qbf (asNB v21) (fun J5=>@qbb (xbin .gtr 0 v23 v25a) ⟨fun v26 =>
 J5 v26 H5⟩) H5 ⟨fun v26a H6 =>
 @qcd v21 (.bool true) v26a ⟨fun v27 =>
 @qbr v27 ⟨fun q=>if q=true then R (.bool false) H6 else
 @qbb (xbin .add 0 v11 (nv 1)) ⟨fun v29 =>
 K1 v19 v29 H6⟩⟩⟩⟩⟩⟩⟩⟩⟩⟩⟩⟩ else
 R (.bool true) H1⟩⟩⟩
theorem g157_of {q0 n1 limit2:Value} {H:AH} {R:Value→AH→Prop} (h:g157 q0 n1 limit2 H R):FN Tryz.prog 157 [q0,n1,limit2] H R:=
  FN.of_XM (ms:=[(4,[7,11])]) qbq (cast (by kernel_rfl) h)
def g158 (a0 n1:Value) (H:AH) (R:Value→AH→Prop):Prop:=
 @loopV2 (nv 1) (nv 0) H ⟨fun out5 v8 H1 K1 =>
 @qbb (xbin .lss 0 v8 n1) ⟨fun v9 =>
 @qbr v9 ⟨fun q=>if q=true then @qbb (xbin .mul 0 out5 a0) ⟨fun v12 =>
 @qbb (xbin .add 0 v8 (nv 1)) ⟨fun v13 =>
 K1 v12 v13 H1⟩⟩ else
 R out5 H1⟩⟩⟩
theorem g158_of {a0 n1:Value} {H:AH} {R:Value→AH→Prop} (h:g158 a0 n1 H R):FN Tryz.prog 158 [a0,n1] H R:=
  FN.of_XM (ms:=[(4,[5,8])]) qbq (cast (by kernel_rfl) h)
def g193 (x0 y1:Value) (H:AH) (R:Value→AH→Prop):Prop:=
 @qbb (xbin .and 0 x0 (.int .u64 4294967295)) ⟨fun v15 =>
 @qbb (xbin .shr 0 x0 (.int .u64 32)) ⟨fun v17 =>
 @qbb (xbin .and 0 y1 (.int .u64 4294967295)) ⟨fun v19 =>
 @qbb (xbin .shr 0 y1 (.int .u64 32)) ⟨fun v21 =>
 @qbb (xbin .mul 0 v15 v19) ⟨fun v24 =>
 @qbb (xbin .mul 0 v17 v19) ⟨fun v27 =>
 @qbb (xbin .shr 0 v24 (.int .u64 32)) ⟨fun v29 =>
 @qbb (xbin .add 0 v27 v29) ⟨fun v30 =>
 @qbb (xbin .and 0 v30 (.int .u64 4294967295)) ⟨fun v32 =>
 @qbb (xbin .shr 0 v30 (.int .u64 32)) ⟨fun v34 =>
 @qbb (xbin .mul 0 v15 v21) ⟨fun v38 =>
 @qbb (xbin .add 0 v32 v38) ⟨fun v39 =>
 @qbb (xbin .mul 0 v17 v21) ⟨fun v42 =>
 @qbb (xbin .add 0 v42 v34) ⟨fun v44 =>
 @qbb (xbin .shr 0 v39 (.int .u64 32)) ⟨fun v46 =>
 @qbb (xbin .add 0 v44 v46) ⟨fun v47 =>
 @qbb (xbin .mul 0 x0 y1) ⟨fun v50 =>
 R (.tuple [v47,v50].toArray) H⟩⟩⟩⟩⟩⟩⟩⟩⟩⟩⟩⟩⟩⟩⟩⟩⟩
theorem g193_of {x0 y1:Value} {H:AH} {R:Value→AH→Prop} (h:g193 x0 y1 H R):FN Tryz.prog 193 [x0,y1] H R:=
  FN.of_XM (ms:=[]) qbq (cast (by kernel_rfl) h)
def g213 (n0 k1:Value) (H:AH) (R:Value→AH→Prop):Prop:=
 @qbb (xbin .lss 0 k1 (nv 0)) ⟨fun v8 =>
 @qbf (asNB v8) (fun J1=>J1 k1 H) H ⟨fun v10 H1 =>
 @qbf (asNB v8) (fun J2=>J2 n0 H1) H1 ⟨fun v11 H2 =>
 @qbf (asNB v8) (fun J3=>@qbb (xbin .gtr 0 v10 v11) ⟨fun v12 =>
 J3 v12 H2⟩) H2 ⟨fun v12a H3 =>
 @qcd v8 (.bool true) v12a ⟨fun v13 =>
 @qbr v13 ⟨fun q=>if q=true then R (nv 0) H3 else
 @qbb (xbin .sub 0 n0 k1) ⟨fun v17 =>
 @qbb (qbc .min2 [k1,v17]) ⟨fun v18 =>
 @loopV2 (nv 1) (nv 0) H3 ⟨fun out5 v19 H4 K4 =>
 @qbb (xbin .lss 0 v19 v18) ⟨fun v20 =>
 @qbr v20 ⟨fun q=>if q=true then @qbb (xbin .sub 0 n0 v19) ⟨fun v25 =>
 @qbb (xbin .mul 0 out5 v25) ⟨fun v26 =>
 @qbb (xbin .add 0 v19 (nv 1)) ⟨fun v28 =>
 @qbb (xbin .quo 0 v26 v28) ⟨fun v29 =>
 @qbb (xbin .add 0 v19 (nv 1)) ⟨fun v30 =>
 K4 v29 v30 H4⟩⟩⟩⟩⟩ else
 R out5 H4⟩⟩⟩⟩⟩⟩⟩⟩⟩⟩⟩
theorem g213_of {n0 k1:Value} {H:AH} {R:Value→AH→Prop} (h:g213 n0 k1 H R):FN Tryz.prog 213 [n0,k1] H R:=
  FN.of_XM (ms:=[(7,[5,19])]) qbq (cast (by kernel_rfl) h)
end Go.Sim

namespace Go.Sim
open Go Go.Proofs
theorem xp_slSlo {b l c k:Nat} (h:k<l) (hc:l≤c):qbc (.slS 1 true false) [.slice (some ⟨b,0,none⟩) l c,nv k]=some (.slice (some ⟨b,k,none⟩) (l-k) (c-k)):=by
  simp only [qbc,bnds,Option.getD_some,Option.getD_none]
  rw [if_pos ⟨trivial,by omega,by omega,by omega⟩]
  by_cases h0:k=0
  · subst h0;simp
  · rw [if_neg (by omega),if_pos (by omega)]
    simp
theorem Row.drop {H:AH} {b l c k:Nat} {vs:List Value} {e:TypeId} {op:Option Nat} {r:Bool} (h:H[b]? = some (.cells vs e op r)) (hl:l=vs.length) (hk:k≤l) (hc:l≤c):Row H (.slice (some ⟨b,k,none⟩) (l-k) (c-k)) (vs.drop k):=
  .inr ⟨b,k,c-k,vs,e,op,r,by rw [List.length_drop,hl],h,fun j _=>by rw [List.getElem?_drop],by rw [List.length_drop];omega⟩
theorem indexP_c {H:AH} {v:Value} {vs:List Value} {F:Nat} {cap:Array Value} {P:Nat→Bool} (hv:Row H v vs) (hl:vs.length≤1000) (hF:∀ k,k<vs.length→FN Tryz.prog F (vs.getD k undef :: cap.toList) H (fun r H'=>r=.bool (P k)∧H'=H)) :
    FN Tryz.prog 140 [v,.func (.func F) #[] cap] H (fun r H'=>((r=.int .i64 (-1)∧∀ k,k<vs.length→P k=false)∨∃ k,r=nv k∧k<vs.length∧P k=true∧∀ j,j<k→P j=false)∧H'=H):=by
  refine g140_of ?_
  unfold g140
  obtain⟨vl,vi,vd,_⟩:=hv.allV
  simp (disch:=omega) only [zA,zB,zC,zD,zF,zG,zH,↓reduceIte,vl]
  refine loopV1.nat vs.length (fun k i H'=>i=nv k∧H'=H∧∀ j,j<k→P j=false) ⟨rfl,rfl,fun j h=>absurd h (Nat.not_lt_zero _)⟩ ?_ ?_
  · rintro k i H hk ⟨rfl,rfl,hin⟩ J hJ
    simp (disch:=omega) only [zA,zB,zC,zD,zF,zG,zH,↓reduceIte,vi,vd,hk]
    refine FZ.use (hF k hk) ?_
    cases h:P k with
    | false =>
      simp (disch:=omega) only [zA,zB,zC,zD,zF,zG,zH,↓reduceIte]
      refine hJ _ _ ⟨rfl,rfl,fun j hj=>?_⟩
      by_cases hjk:j=k
      · rw [hjk];exact h
      · exact hin j (by omega)
    | true =>
      simp (disch:=omega) only [zA,zB,zC,zD,zF,zG,zH,↓reduceIte]
      exact .inr ⟨k,rfl,hk,h,hin⟩
  · rintro i H ⟨rfl,rfl,hin⟩ J
    simp (disch:=omega) only [zA,zB,zC,zD,zF,zG,zH,↓reduceIte]
    exact .inl hin
section
variable {α:Type} [Fl α] [DecidableEq α] {cd:α→Nat} {p e b c q:Nat} {blk:AB} {H:AH}
theorem cadd_c (F:FOK α cd p e b c q blk) {by_:Nat} {vx:Value} {ys xs:List α} {a:α} (hb:H[b]? = some blk) (hbn:b≠by_) (hy:H[by_]? = some (.cells (evs cd ys) 3 none false)) (hl:xs.length=ys.length) (hn:ys.length≤1000)
    (hx:∀ H':AH,(∀ x,x<H.length→x≠by_→H'[x]? = H[x]?)→Row H' vx (evs cd xs)) :
    FN Tryz.prog 95 [fldv p e b e c,.slice (some ⟨by_,0,none⟩) ys.length ys.length,nv (cd a),vx] H (fun _ H'=>(∀ x,x<H.length→x≠by_→H'[x]? = H[x]?)∧H'[by_]? = some (.cells (evs cd (qft ys (xs.map (Fl.mul a)))) 3 none false)∧H.length≤H'.length):=by
  refine g95_of ?_
  unfold g95
  have hlt:=qbs hy
  have hltb:=qbs hb
  by_cases h0:a=Fl.zero
  · have h0':cd a=0:=(F.eq0 _).2 h0
    have e1:qft ys (xs.map (Fl.mul a))=ys:=by
      subst h0
      unfold qft
      refine List.ext_getElem (by simp [hl]) fun j h1 h2=>?_
      simp [Fl.zero_mul,Fl.add_zero]
    simp (disch:=omega) only [zA,zB,zC,zD,zF,zG,zH,↓reduceIte,h0']
    rw [e1]
    exact⟨fun x hx _=>List.getElem?_append_left hx,by rw [List.getElem?_append_left hlt];exact hy,by simp⟩
  · have h0':¬cd a=0:=fun h=>h0 ((F.eq0 _).1 h)
    simp (disch:=omega) only [zA,zB,zC,zD,zF,zG,zH,↓reduceIte,h0']
    obtain⟨Z,hZ⟩:∃ Z,Z=qft ys (xs.map (Fl.mul a)):=⟨_,rfl⟩
    have hZl:Z.length=ys.length:=by rw [hZ];simp [qft,hl]
    have hZg:∀ k,k<ys.length→Z.getD k Fl.zero=Fl.add (ys.getD k Fl.zero) (Fl.mul a (xs.getD k Fl.zero)):=by
      intro k hk
      rw [hZ]
      simp [qft,List.getElem?_zipWith,List.getD_eq_getElem?_getD,List.getElem?_eq_getElem hk,List.getElem?_eq_getElem (show k<xs.length by omega)]
    rw [←hZ]
    refine loopV1.nat ys.length (fun k i H'=>i=nv k∧(∀ x,x<H.length→x≠by_→H'[x]? = H[x]?)∧H'[by_]? = some (.cells (evs cd (Z.take k++ys.drop k)) 3 none false)∧H'[H.length]? = some (.cells [nv p,nv e,.slice (some ⟨b,0,none⟩) e c] 96 none false)∧H.length≤H'.length) ?_ ?_ ?_
    · exact⟨rfl,fun x hx _=>List.getElem?_append_left hx,by rw [List.getElem?_append_left hlt];simpa using hy,by simp,by simp⟩
    · rintro k i H1 hk ⟨rfl,h1,h2,h3,h4⟩ J hJ
      have hb1:=(h1 b hltb hbn).trans hb
      have hrow:=hx H1 h1
      have hkx:k<xs.length:=by omega
      obtain⟨_,ri,rd,_⟩:=hrow.all Fl.zero
      have hCl:(Z.take k++ys.drop k).length=ys.length:=by simp;omega
      have hCk:(Z.take k++ys.drop k).getD k Fl.zero=ys.getD k Fl.zero:=qk2 Fl.zero ys Z k (by omega)
      have hpre:=qk1 Fl.zero ys Z k (by omega) (by omega)
      have l1:=ld_ev (k:=k) h2 (by omega)
      rw [hCk] at l1
      have s1:=st_ev (k:=k) (x:=Fl.add (ys.getD k Fl.zero) (Fl.mul a (xs.getD k Fl.zero))) h2 (by omega)
      rw [←hZg k hk,hpre] at s1
      simp (disch:=omega) only [zA,zB,zC,zD,zF,zG,zH,↓reduceIte,hk,h3,l1,ri,rd,hkx]
      refine FZ.use (F.mul _ _ _ hb1) ?_
      simp (disch:=omega) only [zA,zB,zC,zD,zF,zG,zH,↓reduceIte,h3,l1]
      refine FZ.use (F.add _ _ _ hb1) ?_
      rw [←hZg k hk]
      simp (disch:=omega) only [zA,zB,zC,zD,zF,zG,zH,↓reduceIte,s1]
      refine hJ _ _ ⟨rfl,fun x hx hne=>by rw [List.getElem?_set_ne (Ne.symm hne)];exact h1 x hx hne,List.getElem?_set_self (qbs h2),by rw [List.getElem?_set_ne (by omega)];exact h3,by simpa using h4⟩
    · rintro i H1 ⟨rfl,h1,h2,h3,h4⟩ J
      simp (disch:=omega) only [zA,zB,zC,zD,zF,zG,zH,↓reduceIte]
      rw [List.take_of_length_le (by omega),List.drop_of_length_le (by omega),List.append_nil] at h2
      exact⟨h1,h2,h4⟩
structure Mt (cd:α→Nat) (n sb:Nat) (bs:List Nat) (H:AH) (M:List (List α)):Prop where
  spine:∃ op,H[sb]? = some (.cells (bs.map (rsl n)) 31 op false)
  len:bs.length=M.length
  row:∀ i,i<M.length→H[bs.getD i 0]? = some (.cells (evs cd (M.getD i [])) 3 none false)
  width:∀ x∈M,x.length=n
  nd:(sb :: bs).Nodup
theorem Mt.keep {n sb:Nat} {bs:List Nat} {H H':AH} {M:List (List α)} (h:Mt cd n sb bs H M) (hk:∀ x∈sb :: bs,H'[x]? = H[x]?):Mt cd n sb bs H' M:=by
  obtain⟨op,ho⟩:=h.spine
  refine⟨⟨op,by rw [hk sb (by simp)];exact ho⟩,h.len,fun i hi=>?_,h.width,h.nd⟩
  rw [hk _ (List.mem_cons_of_mem _ (getD_mem (by rw [h.len];exact hi)))]
  exact h.row i hi
theorem Mt.lt {n sb:Nat} {bs:List Nat} {M:List (List α)} (h:Mt cd n sb bs H M):∀ x∈sb :: bs,x<H.length:=by
  intro x hx
  obtain⟨op,ho⟩:=h.spine
  simp only [List.mem_cons] at hx
  rcases hx with rfl|hx
  · exact qbs ho
  · obtain⟨k,hk,rfl⟩:=List.mem_iff_getElem.1 hx
    have:=h.row k (by rw [←h.len];exact hk)
    rw [List.getD_eq_getElem?_getD,List.getElem?_eq_getElem hk] at this
    exact qbs this
theorem Mt.setRow {n sb:Nat} {bs:List Nat} {H H':AH} {M:List (List α)} (h:Mt cd n sb bs H M) {i:Nat} (hi:i<M.length) {x:List α} (hx:x.length=n) (hk:∀ y,y<H.length→y≠bs.getD i 0→H'[y]? = H[y]?) (hn:H'[bs.getD i 0]? = some (.cells (evs cd x) 3 none false)):Mt cd n sb bs H' (M.set i x):=by
  have hlt:=h.lt
  obtain⟨op,ho⟩:=h.spine
  have hb:=getD_mem (d:=0) (show i<bs.length by rw [h.len];exact hi)
  have hnd:=h.nd
  simp only [List.nodup_cons] at hnd
  obtain⟨n3,n4⟩:=hnd
  have hs:sb≠bs.getD i 0:=fun e=>n3 (e ▸ hb)
  refine⟨⟨op,by rw [hk _ (hlt _ (by simp)) hs];exact ho⟩,by simp [h.len],fun k hk2=>?_,fun y hy=>?_,h.nd⟩
  · simp only [List.length_set] at hk2
    by_cases hki:i=k
    · subst hki
      rw [hn]
      simp [List.getD_eq_getElem?_getD,List.getElem?_set_self hi]
    · rw [hk _ (hlt _ (List.mem_cons_of_mem _ (getD_mem (by rw [h.len];exact hk2)))) (qgh n4 (by rw [h.len];exact hk2) (by rw [h.len];exact hi) (Ne.symm hki)),h.row k hk2]
      simp [List.getD_eq_getElem?_getD,List.getElem?_set_ne hki]
  · rcases List.mem_or_eq_of_mem_set hy with hy|rfl
    · exact h.width _ hy
    · exact hx
theorem Mt.swap {n sb:Nat} {bs:List Nat} {M:List (List α)} (h:Mt cd n sb bs H M) {i r:Nat} (hi:i<M.length) (hr:r<M.length) {op:Option Nat} :
    Mt cd n sb (qfx 0 bs i r) (H.set sb (.cells ((qfx 0 bs i r).map (rsl n)) 31 op false)) (qfx [] M i r):=by
  have hl:=h.len
  obtain⟨op0,ho⟩:=h.spine
  have hnd:=h.nd
  simp only [List.nodup_cons] at hnd
  obtain⟨n3,n4⟩:=hnd
  have hm:∀ {x},x∈qfx 0 bs i r→x∈bs:=fun hx=>qq0 (by omega) (by omega) hx
  refine⟨⟨op,List.getElem?_set_self (qbs ho)⟩,by rw [qdg,qdg,hl],fun k hk=>?_,fun x hx=>h.width _ (qq0 hi hr hx),?_⟩
  · rw [qdg] at hk
    have hne:sb≠(qfx 0 bs i r).getD k 0:=fun e=>n3 (e ▸ hm (getD_mem (by rw [qdg];omega)))
    rw [List.getElem?_set_ne hne,qgk (by omega) (by omega),qgk hi hr]
    split
    · exact h.row i hi
    · split
      · exact h.row r hr
      · exact h.row k hk
  · simp only [List.nodup_cons]
    exact⟨fun hx=>n3 (hm hx),lswap_nodup n4 (by omega) (by omega)⟩
def CRed (cd:α→Nat) (n sb:Nat) (bs:List Nat) (M:List (List α)) (C:Nat) (H H':AH) (r:Value):Prop:=
  ∃ k bs' M',r=.slice (some ⟨sb,0,none⟩) k C∧Mt cd n sb bs' H' M'∧k≤M'.length∧M'.take k=qbz M∧(∀ x,x<H.length→x∉sb :: bs→H'[x]? = H[x]?)∧(∀ x∈bs',x∈bs)∧H.length≤H'.length
theorem creduce_c (F:FOK α cd p e b c q blk) {n sb L C:Nat} {bs:List Nat} {M:List (List α)} (hb:H[b]? = some blk) (hbn:b∉sb :: bs) (h:Mt cd n sb bs H M) (hM:M.length≤1000) (hn:n≤1000) (hL:L=M.length) (hC:L≤C) :
    FN Tryz.prog 85 [fldv p e b e c,nv n,.slice (some ⟨sb,0,none⟩) L C] H (fun r H'=>CRed cd n sb bs M C H H' r):=by
  refine g85_of ?_
  unfold g85
  have mlt:=h.lt
  have hltb:=qbs hb
  have s0:=qfq (c:=[nv 0]) (e:=3) (op:=none) (H:=H++[.cells [nv p,nv e,.slice (some ⟨b,0,none⟩) e c] 96 none false,.cells [nv 0] 3 none false]) (bl:=H.length+1) (o:=0) (v:=nv 0) rfl rfl (by simp)
  have e0:(H++[AB.cells [nv p,nv e,.slice (some ⟨b,0,none⟩) e c] 96 none false,AB.cells [nv 0] 3 none false]).set (H.length+1) (AB.cells ([nv 0].set 0 (nv 0)) 3 none false)=H++[AB.cells [nv p,nv e,.slice (some ⟨b,0,none⟩) e c] 96 none false,AB.cells [nv 0] 3 none false]:=by
    rw [List.set_append_right _ _ (by omega)];simp
  rw [e0] at s0
  simp (disch:=omega) only [zA,zB,zC,zD,zF,zG,zH,↓reduceIte,s0]
  have hLM:∀ {X:List (List α)},X.length=M.length→X.length=L:=fun hx=>by rw [hx,hL]
  refine loopV2.ind (fun m r c8 H'=>∃ col cb bs1 M1 P,col+m=n∧c8=.pointer (some ⟨cb,0,none⟩)∧H.length<cb∧H'[cb]? = some (.cells [nv col] 3 none false)∧r=nv P.length∧H'[H.length]? = some (.cells [nv p,nv e,.slice (some ⟨b,0,none⟩) e c] 96 none false)∧Mt cd n sb bs1 H' M1∧RedTo n col M1 P∧M1.length=M.length∧(∀ u,LSpan M1 u↔LSpan M u)∧(∀ x,x<H.length→x∉sb :: bs→H'[x]? = H[x]?)∧(∀ x∈bs1,x∈bs)∧H.length<H'.length) n
    ⟨0,H.length+1,bs,M,[],by omega,rfl,by omega,by simp,rfl,by simp,h.keep fun x hx=>List.getElem?_append_left (mlt x hx),RedTo.start h.width,rfl,fun _=>Iff.rfl,fun x hx _=>List.getElem?_append_left hx,fun _ hx=>hx,by simp⟩ ?_
  rintro m r c8 H4 ⟨col,cb,bs1,M1,P,hcm,rfl,hcb,hc4,rfl,ho4,hm1,hr1,hl1,hs1,hfr,hsub,hlen⟩ J hJ
  have hPl:=hr1.len
  have hbl:=hm1.len
  have hdone:∀ (hfull:RedTo n n M1 P),CRed cd n sb bs M C H H4 (.slice (some ⟨sb,0,none⟩) P.length C):=by
    intro hfull
    obtain⟨d1,d2⟩:=hfull.done
    refine⟨P.length,bs1,M1,rfl,hm1,by omega,?_,hfr,hsub,by omega⟩
    obtain⟨h1,h2,_⟩:=qb5 h.width
    exact d1.unique h1 fun u=>(d2 u).trans ((hs1 u).trans (h2 u).symm)
  by_cases hcn:col<n
  · by_cases hPr:P.length<L
    · simp (disch := omega) only [zA,zB,zC,zD,zF,zG,zH,↓reduceIte,hc4,hcn,hPr]
      obtain⟨op,ho⟩:=hm1.spine
      have sl1:=xp_slSlo (b:=sb) hPr hC
      have hLb:L=(bs1.map (rsl n)).length:=by rw [List.length_map];omega
      refine joinV1.via (fun r' H'=>∃ bs' M' P',r'=nv P'.length∧H'[cb]? = some (.cells [nv col] 3 none false)∧H'[H.length]? = some (.cells [nv p,nv e,.slice (some ⟨b,0,none⟩) e c] 96 none false)∧Mt cd n sb bs' H' M'∧RedTo n (col+1) M' P'∧M'.length=M.length∧(∀ u,LSpan M' u↔LSpan M u)∧(∀ x,x<H.length→x∉sb :: bs→H'[x]? = H[x]?)∧(∀ x∈bs',x∈bs)∧H.length<H'.length) ?_ ?_
      · intro J2 hJ2
        simp (disch:=omega) only [zA,zB,zC,zD,zF,zG,zH,↓reduceIte,sl1,xp_fn1]
        refine FZ.mono (indexP_c (P:=fun k=>decide (ent M1 (P.length+k) col≠Fl.zero)) (Row.drop ho hLb (by omega) hC) (by simp;omega) fun k hk=>?_) ?_
        · have hk':P.length+k<bs1.length:=by simp at hk;omega
          have e1:((bs1.map (rsl n)).drop P.length).getD k undef=rsl n (bs1.getD (P.length+k) 0):=by
            simp [List.getD_eq_getElem?_getD,List.getElem?_drop,List.getElem?_eq_getElem hk']
          rw [e1]
          refine g141_of ?_
          unfold g141
          have hrow:=hm1.row (P.length+k) (by omega)
          have hcw:col<(M1.getD (P.length+k) []).length:=by rw [qb7 hm1.width (by omega)];omega
          have l2:=ld_ev hrow hcw
          by_cases he:ent M1 (P.length+k) col=Fl.zero
          · have he0:cd ((M1.getD (P.length+k) []).getD col Fl.zero)=0:=(F.eq0 _).2 he
            simp (disch:=omega) only [zA,zB,zC,zD,zF,zG,zH,↓reduceIte,hc4,l2,hcn,he0]
            rw [decide_eq_false (fun h=>h he)]
          · have he0:¬cd ((M1.getD (P.length+k) []).getD col Fl.zero)=0:=fun hh=>he ((F.eq0 _).1 hh)
            simp (disch:=omega) only [zA,zB,zC,zD,zF,zG,zH,↓reduceIte,hc4,l2,hcn,he0]
            rw [decide_eq_true he]
        rintro _ H4 ⟨⟨rfl,hno⟩|⟨k,rfl,hk,hk1,hk2⟩,rfl⟩
        · have e1:xbin .lss 0 (.int .i64 (-1)) (nv 0)=some (.bool true):=by rw [qjx,decide_eq_true];omega
          simp (disch:=omega) only [zA,zB,zC,zD,zF,zG,zH,↓reduceIte,e1]
          refine hJ2 _ _ ⟨bs1,M1,P,rfl,hc4,ho4,hm1,hr1.skip fun k h1 h2=>?_,hl1,hs1,hfr,hsub,hlen⟩
          have:=hno (k-P.length) (by simp;omega)
          rw [Nat.add_sub_cancel' h1] at this
          exact Classical.byContradiction fun hne=>by simp [hne] at this
        · have hi1:P.length≤P.length+k:=by omega
          obtain⟨i,hi⟩:∃ i,i=P.length+k:=⟨_,rfl⟩
          rw [←hi] at hi1
          have him:i<M1.length:=by simp at hk;omega
          have hk1':ent M1 i col≠Fl.zero:=by rw [hi];simpa using hk1
          have hib:i<bs1.length:=by omega
          have hrm:P.length<M1.length:=by omega
          have hrb:P.length<bs1.length:=by omega
          have hiL:i<L:=by omega
          have l1:=ld_sp ho hib
          have l3:=ld_sp ho hrb
          have hst:=hr1.step him hi1 hk1'
          have hsp:=qp4 (n:=n) hm1.width hrm him hk1'
          have s1:=st_sp (x:=bs1.getD i 0) ho hrb
          have hsb:=qbs ho
          have ho2:(H4.set sb (.cells ((bs1.set P.length (bs1.getD i 0)).map (rsl n)) 31 op false))[sb]? = some (.cells ((bs1.set P.length (bs1.getD i 0)).map (rsl n)) 31 op false):=List.getElem?_set_self hsb
          have s2:=st_sp (x:=bs1.getD P.length 0) ho2 (k:=i) (by simpa using hib)
          rw [List.set_set] at s2
          have hsw:(bs1.set P.length (bs1.getD i 0)).set i (bs1.getD P.length 0)=qfx 0 bs1 i P.length:=by
            refine List.ext_getElem (by simp [qfx]) fun j h1 h2=>?_
            unfold qfx
            by_cases e1:i=j
            · by_cases e2:P.length=j
              · subst e2;subst e1;simp
              · subst e1;simp [List.getElem_set_ne e2]
            · by_cases e2:P.length=j
              · subst e2;simp [List.getElem_set_ne e1]
              · simp [List.getElem_set_ne e1,List.getElem_set_ne e2]
          rw [hsw] at s2
          have hm2:=hm1.swap him hrm (op:=op)
          have hfr2:∀ x,x≠sb→(H4.set sb (.cells ((qfx 0 bs1 i P.length).map (rsl n)) 31 op false))[x]? = H4[x]?:=fun x hx=>List.getElem?_set_ne (Ne.symm hx)
          have hH2l:(H4.set sb (.cells ((qfx 0 bs1 i P.length).map (rsl n)) 31 op false)).length=H4.length:=by simp
          have hsub2:∀ x∈qfx 0 bs1 i P.length,x∈bs:=fun x hx=>hsub x (qq0 hib hrb hx)
          have hM2g:∀ k,(qfx [] M1 i P.length).getD k []=if k=P.length then M1.getD i [] else if k=i then M1.getD P.length [] else M1.getD k []:=fun k=>qgk him hrm
          have hfront:(qfx [] M1 i P.length).set P.length ((M1.getD i []).map (Fl.mul (Fl.inv (ent M1 i col))))=qc8 P.length i col M1:=rfl
          have hM2l:(qfx [] M1 i P.length).length=M1.length:=qdg
          have e1:xbin .lss 0 (nv k) (nv 0)=some (.bool false):=by rw [show nv k=.int .i64 (k:Int) from rfl,qjx,decide_eq_false];omega
          have e2:xbin .add 0 (nv P.length) (nv k)=some (nv i):=by rw [qjz (by simp at hk;omega),hi]
          have hsbH:=mlt sb (by simp)
          simp (disch:=omega) only [zA,zB,zC,zD,zF,zG,zH,↓reduceIte,e1,e2,hiL,hPr,l1,l3,s1,s2]
          obtain⟨bs2,hbs2⟩:∃ x,x=qfx 0 bs1 i P.length:=⟨_,rfl⟩
          obtain⟨M2,hM2⟩:∃ x,x=qfx [] M1 i P.length:=⟨_,rfl⟩
          rw [←hbs2] at hm2 hfr2 hH2l hsub2 ⊢
          rw [←hM2] at hm2 hM2g hfront hM2l
          obtain⟨H2,hH2⟩:∃ x,x=H4.set sb (.cells (bs2.map (rsl n)) 31 op false):=⟨_,rfl⟩
          rw [←hH2] at hm2 hfr2 hH2l ⊢
          have hcbs:cb≠sb:=by omega
          have hc2:=(hfr2 cb hcbs).trans hc4
          have hob2:=(hfr2 H.length (by omega)).trans ho4
          obtain⟨op2,ho2'⟩:=hm2.spine
          have hbl2:=hm2.len
          have hrb2:P.length<bs2.length:=by omega
          have l4:=ld_sp ho2' hrb2
          have hrow2:=hm2.row P.length (by omega)
          rw [hM2g,if_pos rfl] at hrow2
          have hxl:(M1.getD i []).length=n:=qb7 hm1.width him
          have hcw:col<(M1.getD i []).length:=by omega
          have l5:=ld_ev hrow2 hcw
          have hbn':=hbn
          simp only [List.mem_cons,not_or] at hbn'
          have hb2:H2[b]? = some blk:=by
            rw [hfr2 b hbn'.1,hfr b hltb hbn];exact hb
          simp (disch:=omega) only [zA,zB,zC,zD,zF,zG,zH,↓reduceIte,hob2,hPr,l4,hc2,l5,hcn]
          refine FZ.use (F.inv _ _ hb2 hk1') ?_
          simp (disch:=omega) only [zA,zB,zC,zD,zF,zG,zH,↓reduceIte,hob2,hPr,l4,hc2,l5,hcn]
          obtain⟨N0,hN0⟩:∃ x,x=(M1.getD i []).map (Fl.mul (Fl.inv (ent M1 i col))):=⟨_,rfl⟩
          have hN0l:N0.length=n:=by rw [hN0,List.length_map];exact hxl
          have hN0g:∀ j,j<n→N0.getD j Fl.zero=Fl.mul (Fl.inv (ent M1 i col)) ((M1.getD i []).getD j Fl.zero):=fun j hj=>by
            have hjx:j<(M1.getD i []).length:=by omega
            rw [hN0]
            generalize M1.getD i []=X at hjx ⊢
            simp [List.getD_eq_getElem?_getD,List.getElem?_eq_getElem hjx]
          have hbi2:=getD_mem (d:=0) hrb2
          obtain⟨bi,hbi⟩:∃ x,x=bs2.getD P.length 0:=⟨_,rfl⟩
          rw [←hbi] at hrow2 l4 l5 hbi2
          have hlt2:=hm2.lt
          have hnd2:=hm2.nd
          simp only [List.nodup_cons] at hnd2
          have hbis:bi≠sb:=fun h=>hnd2.1 (h ▸ hbi2)
          have hbiH:bi<H.length:=mlt bi (List.mem_cons_of_mem _ (hsub2 _ hbi2))
          have hbbi:b≠bi:=fun h=>hbn'.2 (hsub2 _ (h ▸ hbi2))
          refine loopV1.nat n (fun j v H'=>v=nv j∧(∀ x,x<H2.length→x≠bi→H'[x]? = H2[x]?)∧H'.length=H2.length∧H'[bi]? = some (.cells (evs cd (N0.take j++(M1.getD i []).drop j)) 3 none false)) ⟨rfl,fun _ _ _=>rfl,rfl,by simpa using hrow2⟩ ?_ ?_
          · rintro j v H5 hj ⟨rfl,q1,q2,q3⟩ J3 hJ3
            have hCl:(N0.take j++(M1.getD i []).drop j).length=n:=by rw [List.length_append,List.length_take,List.length_drop];omega
            have hCj:(N0.take j++(M1.getD i []).drop j).getD j Fl.zero=(M1.getD i []).getD j Fl.zero:=qk2 Fl.zero _ N0 j (by omega)
            have hpre:=qk1 Fl.zero (M1.getD i []) N0 j (by omega) (by omega)
            have a1:=ld_ev (k:=j) q3 (by omega)
            rw [hCj] at a1
            have a2:=st_ev (k:=j) (x:=N0.getD j Fl.zero) q3 (by omega)
            rw [hpre] at a2
            rw [hN0g j hj] at a2
            unfold ent at a2
            have hob5:=(q1 H.length (by omega) (by omega)).trans hob2
            have ho5:=(q1 sb (by omega) (Ne.symm hbis)).trans ho2'
            have a3:=ld_sp ho5 hrb2
            rw [←hbi] at a3
            have hb5:=(q1 b (by omega) hbbi).trans hb2
            simp (disch:=omega) only [zA,zB,zC,zD,zF,zG,zH,↓reduceIte,hj,hPr,a3,hob5,a1]
            refine FZ.use (F.mul _ _ _ hb5) ?_
            simp (disch:=omega) only [zA,zB,zC,zD,zF,zG,zH,↓reduceIte,hPr,a3,hj,a2]
            refine hJ3 _ _ ⟨rfl,fun x hx hne=>by rw [List.getElem?_set_ne (Ne.symm hne)];exact q1 x hx hne,by simp [q2],List.getElem?_set_self (qbs q3)⟩
          rintro v H3 ⟨rfl,q1,q2,q3⟩ J3
          rw [List.take_of_length_le (by omega),List.drop_of_length_le (by omega),List.append_nil] at q3
          have hm3:=hm2.setRow (i:=P.length) (x:=N0) (by omega) hN0l (by rw [←hbi];exact q1) (by rw [←hbi];exact q3)
          rw [hN0,hfront] at hm3
          have hNl:(qc8 P.length i col M1).length=M1.length:=qdm
          have hEl:=qcb P.length col (qc8 P.length i col M1)
          have hEg:=fun k hk=>qfk (r:=P.length) (col:=col) (M:=qc8 P.length i col M1) (k:=k) hk
          obtain⟨N,hN⟩:∃ N,N=qc8 P.length i col M1:=⟨_,rfl⟩
          rw [←hN] at hm3 hNl hEl hEg hst hsp
          obtain⟨E,hE⟩:∃ E,E=qhh P.length col N:=⟨_,rfl⟩
          rw [←hE] at hEl hEg hst hsp
          have hNr:∀ k,k<N.length→k≠P.length→E.getD k []=lsub (N.getD k []) (ent N k col) (N.getD P.length []):=fun k hk hkr=>by rw [hEg k hk,if_neg hkr]
          have hNrr:E.getD P.length []=N.getD P.length []:=by rw [hEg _ (by omega),if_pos rfl]
          have hc3:=(q1 cb (qbs hc2) (by omega)).trans hc2
          have hob3:=(q1 H.length (by omega) (by omega)).trans hob2
          have hfr3:∀ x,x<H.length→x∉sb :: bs→H3[x]? = H[x]?:=fun x hx hxn=>by
            have hxn':=hxn
            simp only [List.mem_cons,not_or] at hxn'
            rw [q1 x (by omega) (fun h=>hxn'.2 (hsub2 _ (h ▸ hbi2))),hfr2 x hxn'.1,hfr x hx hxn]
          have hl3:H.length<H3.length:=by omega
          clear q1 q2 q3 l4 l5 l1 l3 s1 s2 hrow2
          simp (disch:=omega) only [zA,zB,zC,zD,zF,zG,zH,↓reduceIte]
          refine loopV1.nat L (fun k j H'=>j=nv k∧Mt cd n sb bs2 H' (E.take k++N.drop k)∧(∀ x,x<H.length→x∉sb :: bs→H'[x]? = H[x]?)∧H'[cb]? = some (.cells [nv col] 3 none false)∧H'[H.length]? = some (.cells [nv p,nv e,.slice (some ⟨b,0,none⟩) e c] 96 none false)∧H.length<H'.length) ⟨rfl,by simpa using hm3,hfr3,hc3,hob3,hl3⟩ ?_ ?_
          · rintro k2 j H5 hkm ⟨rfl,hm5,hfr5,hc5,hob5,hl5⟩ J4 hJ4
            have hbl3:k2<bs2.length:=by omega
            have hCl:(E.take k2++N.drop k2).length=L:=by simp;omega
            have hCk:=qk2 [] N E k2 (by omega)
            have hpre:=qk1 [] N E k2 (by omega) (by omega)
            obtain⟨op5,ho5⟩:=hm5.spine
            have l6:=ld_sp ho5 hbl3
            by_cases hkr:k2=P.length
            · subst hkr
              simp (disch:=omega) only [zA,zB,zC,zD,zF,zG,zH,↓reduceIte,hkm,l6]
              refine hJ4 _ _ ⟨rfl,?_,hfr5,hc5,hob5,hl5⟩
              rw [←hpre,hNrr,←hCk]
              have:∀ (L:List (List α)) (k:Nat),k<L.length→L.set k (L.getD k [])=L:=fun L k hL=>by
                refine List.ext_getElem (by simp) fun l h1 h2=>?_
                by_cases hlk:k=l
                · subst hlk;simp [List.getD_eq_getElem?_getD,List.getElem?_eq_getElem h2]
                · simp [List.getElem_set_ne hlk]
              rw [this _ _ (by omega)]
              exact hm5
            · have hrow5:=hm5.row k2 (by omega)
              rw [hCk] at hrow5
              have hNwk:(N.getD k2 []).length=n:=by
                have:=qb7 hm5.width (k:=k2) (by omega)
                rwa [hCk] at this
              have hCr:(E.take k2++N.drop k2).getD P.length []=N.getD P.length []:=by
                simp only [List.getD_eq_getElem?_getD]
                by_cases hlt:P.length<k2
                · rw [List.getElem?_append_left (by simp;omega),List.getElem?_take_of_lt hlt]
                  simpa [List.getD_eq_getElem?_getD] using hNrr
                · rw [List.getElem?_append_right (by simp;omega)]
                  simp only [List.length_take,List.getElem?_drop]
                  congr 2
                  omega
              have hNwr:(N.getD P.length []).length=n:=by
                have:=qb7 hm5.width (k:=P.length) (by omega)
                rwa [hCr] at this
              have hrowr:=hm5.row P.length (by omega)
              rw [hCr] at hrowr
              have l7:=ld_ev hrow5 (k:=col) (by omega)
              have l8:=ld_sp ho5 hrb2
              have hbk2:=getD_mem (d:=0) hbl3
              have hb5:H5[b]? = some blk:=by rw [hfr5 b hltb hbn];exact hb
              have hnb:b≠bs2.getD k2 0:=fun h=>hbn'.2 (hsub2 _ (h ▸ hbk2))
              simp (disch:=omega) only [zA,zB,zC,zD,zF,zG,zH,↓reduceIte,hkm,l6,hkr,hob5,hc5,l7,hcn,hPr,l8]
              refine FZ.use (F.neg _ _ hb5) ?_
              simp (disch:=omega) only [zA,zB,zC,zD,zF,zG,zH,↓reduceIte,hob5,l8]
              have hck2:bs2.getD k2 0≠bs2.getD P.length 0:=qgh hnd2.2 hbl3 hrb2 hkr
              have hxr:∀ H':AH,(∀ x,x<H5.length→x≠bs2.getD k2 0→H'[x]? = H5[x]?)→Row H' (rsl n (bs2.getD P.length 0)) (evs cd (N.getD P.length [])):=fun H' hH'=>Row.of (by rw [hH' _ (qbs hrowr) (Ne.symm hck2)];exact hrowr) (by rw [List.length_map,hNwr]) (Nat.le_refl _)
              have hadd:=cadd_c F (a:=Fl.neg (ent N k2 col)) hb5 hnb hrow5 (by omega) (by omega) hxr
              rw [hNwk,lsub_plus] at hadd
              refine FZ.mono hadd ?_
              rintro v7 H7 ⟨z1,z2,z3⟩
              have hm7:=hm5.setRow (i:=k2) (by omega) (by rw [qjh (by omega),hNwk]) z1 z2
              have hEk:=hNr k2 (by omega) hkr
              rw [←hEk,hpre] at hm7
              simp (disch:=omega) only [zA,zB,zC,zD,zF,zG,zH,↓reduceIte]
              have hbkH:bs2.getD k2 0<H.length:=mlt _ (List.mem_cons_of_mem _ (hsub2 _ hbk2))
              refine hJ4 _ _ ⟨rfl,hm7,fun x hx hxn=>?_,(z1 cb (qbs hc5) (by omega)).trans hc5,(z1 H.length (by omega) (by omega)).trans hob5,by omega⟩
              have hxn':=hxn
              simp only [List.mem_cons,not_or] at hxn'
              rw [z1 x (by omega) (fun h=>hxn'.2 (hsub2 _ (h ▸ hbk2)))]
              exact hfr5 x hx hxn
          · rintro j H5 ⟨rfl,hm5,hfr5,hc5,hob5,hl5⟩ J4
            rw [List.take_of_length_le (by omega),List.drop_of_length_le (by omega),List.append_nil] at hm5
            simp (disch:=omega) only [zA,zB,zC,zD,zF,zG,zH,↓reduceIte]
            exact hJ2 _ _ ⟨bs2,E,P++[col],by simp,hc5,hob5,hm5,hst,by omega,fun u=>(hsp u).trans (hs1 u),hfr5,hsub2,hl5⟩
      · rintro r' H5 ⟨bs',M',P',rfl,k1,k2,k3,k4,k5,k6,k7,k8,k9⟩
        have s7:=qfq (c:=[nv 0]) (e:=3) (op:=none) (H:=H5++[.cells [nv 0] 3 none false]) (bl:=H5.length) (o:=0) (v:=nv col) rfl rfl (by simp)
        have e7:(H5++[AB.cells [nv 0] 3 none false]).set H5.length (AB.cells ([nv 0].set 0 (nv col)) 3 none false)=H5++[.cells [nv col] 3 none false]:=by
          rw [List.set_append_right _ _ (by omega)];simp
        rw [e7] at s7
        have s8:=qfq (c:=[nv col]) (e:=3) (op:=none) (H:=H5++[.cells [nv col] 3 none false]) (bl:=H5.length) (o:=0) (v:=nv (col+1)) rfl rfl (by simp)
        have e8:(H5++[AB.cells [nv col] 3 none false]).set H5.length (AB.cells ([nv col].set 0 (nv (col+1))) 3 none false)=H5++[.cells [nv (col+1)] 3 none false]:=by
          rw [List.set_append_right _ _ (by omega)];simp
        rw [e8] at s8
        simp (disch:=omega) only [zA,zB,zC,zD,zF,zG,zH,↓reduceIte,k1,s7,s8]
        have hp:=Pre.new H5 [.cells [nv (col+1)] 3 none false]
        refine hJ _ _ _ ⟨m-1,by omega,col+1,H5.length,bs',M',P',by omega,rfl,k9,by simp,rfl,hp.get k2,k3.keep fun x hx=>hp x (k3.lt x hx),k4,k5,k6,fun x hx hxn=>(hp x (by omega)).trans (k7 x hx hxn),k8,by simp;omega⟩
    · simp (disch:=omega) only [zA,zB,zC,zD,zF,zG,zH,↓reduceIte,hc4,hcn,hPr,qjq]
      exact hdone (hr1.full (by omega) (.inl (by omega)))
  · simp (disch:=omega) only [zA,zB,zC,zD,zF,zG,zH,↓reduceIte,hc4,hcn,qjq]
    exact hdone (hr1.full (by omega) (.inr (by omega)))
end
end Go.Sim

namespace Go.Sim
section
variable {α:Type} [Fl α] [DecidableEq α]
open Fl
def dotn:Nat→Vc α→Vc α→α
  | 0,_,_=>zero
  | k+1,u,w=>add (dotn k u w) (mul (u k) (w k))
theorem ldotk_dotn (xs ys:List α):∀ k,ldotk xs ys k=dotn k (toV xs) (toV ys)
  | 0=>rfl
  | k+1=>by rw [ldotk,dotn,ldotk_dotn xs ys k];rfl
theorem qbw {u w u' w':Vc α}:∀ k,(∀ j,j<k→mul (u j) (w j)=mul (u' j) (w' j))→dotn k u w=dotn k u' w'
  | 0,_=>rfl
  | k+1,h=>by rw [dotn,dotn,qbw k (fun j hj=>h j (by omega)),h k (by omega)]
theorem qcc (u w:Vc α) (k:Nat):dotn k u w=dotn k w u:=qbw k fun _ _=>mul_comm _ _
theorem dotn_va (u u' w:Vc α):∀ k,dotn k (va u u') w=add (dotn k u w) (dotn k u' w)
  | 0=>(add_zero _).symm
  | k+1=>by
    rw [dotn,dotn,dotn,dotn_va u u' w k]
    show add _ (mul (add (u k) (u' k)) (w k))=_
    rw [Fl.add_mul,Fl.add_swap]
theorem dotn_vs (a:α) (u w:Vc α):∀ k,dotn k (vs a u) w=mul a (dotn k u w)
  | 0=>(Fl.mul_zero _).symm
  | k+1=>by
    rw [dotn,dotn,dotn_vs a u w k]
    show add _ (mul (mul a (u k)) (w k))=_
    rw [mul_assoc,mul_add]
theorem qmh (w:Vc α):∀ k,dotn k vz w=zero
  | 0=>rfl
  | k+1=>by
    rw [dotn,qmh w k]
    show add zero (mul zero (w k))=zero
    rw [Fl.zero_mul,add_zero]
theorem dotn_var (w u u':Vc α) (k:Nat):dotn k w (va u u')=add (dotn k w u) (dotn k w u'):=by rw [qcc,dotn_va,qcc u,qcc u']
theorem dotn_vsr (a:α) (w u:Vc α) (k:Nat):dotn k w (vs a u)=mul a (dotn k w u):=by rw [qcc,dotn_vs,qcc u]
theorem qpg (w:Vc α) (k:Nat):dotn k w vz=zero:=by rw [qcc,qmh]
def vun (p:Nat):Vc α:=fun j=>if j=p then Fl.one else zero
theorem qmj (w:Vc α) (p:Nat):∀ k,k≤p→dotn k w (vun p)=zero
  | 0,_=>rfl
  | k+1,h=>by
    rw [dotn,qmj w p k (by omega),vun,if_neg (by omega),Fl.mul_zero,add_zero]
theorem qf5 (w:Vc α) (p:Nat):∀ k,p<k→dotn k w (vun p)=w p
  | 0,h=>by omega
  | k + 1,h=>by
    rw [dotn]
    by_cases hp:k=p
    · subst hp
      rw [qmj w k k (Nat.le_refl _),vun,if_pos rfl,mul_one,Fl.zero_add]
    · rw [qf5 w p k (by omega),vun,if_neg hp,Fl.mul_zero,add_zero]
theorem qdz (c:Nat→α) (R:Nat→Vc α) (j:Nat):∀ m,comb c R m j=dotn m c (fun i=>R i j)
  | 0=>rfl
  | k+1=>by
    show add (comb c R k j) (mul (c k) (R k j))=_
    rw [qdz c R j k];rfl
theorem qkq (w:Vc α) (c:Nat→α) (R:Nat→Vc α) (n:Nat):∀ m,dotn n w (comb c R m)=dotn m c (fun i=>dotn n w (R i))
  | 0=>qpg w n
  | k+1=>by rw [comb,dotn_var,dotn_vsr,qkq w c R n k];rfl
theorem qgr (c:Nat→α) (R:Nat→Vc α):∀ m,Span m R (comb c R m)
  | 0=>.zero
  | k+1=>.step _ ((qgr c R k).mono fun i hi=>Span.row (by omega)) (by omega)
theorem comb_unit' (R:Nat→Vc α) (c:α) (i:Nat) (m:Nat) (hi:i<m):comb (fun k=>if k=i then c else zero) R m=vs c (R i):=
  qkr R c i _ m hi (if_pos rfl) (fun k _ hk=>if_neg hk)
theorem qp6 {m:Nat} {R:Nat→Vc α} {v:Vc α} (h:Span m R v):∃ c,v=comb c R m:=by
  induction h with
  | zero=>exact⟨fun _=>zero,(qhn R _ _ fun _ _=>rfl).symm⟩
  | @step w i c _ hi ih =>
    obtain⟨d,rfl⟩:=ih
    refine⟨fun k=>add (d k) (if k=i then c else zero),?_⟩
    rw [comb_add R d (fun k=>if k=i then c else zero) _ m (fun _ _=>rfl),comb_unit' R c i m hi]
theorem qgc {n:Nat} {xss:List (List α)} {cs:List α} (hl:∀ x∈xss,x.length=n):∀ k,k≤xss.length→toV (qf0 n xss cs k)=comb (toV cs) (rowV xss) k
  | 0,_=>toV_zero n
  | k+1,hk=>by
    have h1:=qfd (cs:=cs) hl k (by omega)
    rw [qf0,qfp (by rw [h1,qb7 hl (by omega)]),qgc hl k (by omega)]
    rfl
theorem lcomb_span {n:Nat} {xss:List (List α)} {cs:List α} (hl:∀ x∈xss,x.length=n):LSpan xss (toV (lcomb n xss cs)):=by
  rw [lcomb,qgc hl _ (Nat.le_refl _)]
  exact qgr _ _ _
theorem sub_eq {a b:α} (h:add a (mul (neg Fl.one) b)=zero):a=b:=by
  have h1:=congrFun (vneg (fun _:Nat=>b)) 0
  have h2:add b (mul (neg Fl.one) b)=zero:=h1
  have h3:add (mul (neg Fl.one) b) a=add (mul (neg Fl.one) b) b:=by rw [add_comm _ a,add_comm _ b,h,h2]
  exact Fl.add_left_cancel h3
def Nul (n:Nat) (S:Vc α→Prop) (u:Vc α):Prop:=(∀ j,n≤j→u j=zero)∧∀ w,S w→dotn n w u=zero
theorem Nul.vz {n:Nat} {S:Vc α→Prop}:Nul n S vz:=⟨fun _ _=>rfl,fun w _=>qpg w n⟩
theorem Nul.va {n:Nat} {S:Vc α→Prop} {u v:Vc α} (hu:Nul n S u) (hv:Nul n S v):Nul n S (va u v):=
  ⟨fun j hj=>by show add (u j) (v j)=zero;rw [hu.1 j hj,hv.1 j hj,add_zero],fun w hw=>by rw [dotn_var,hu.2 w hw,hv.2 w hw,add_zero]⟩
theorem Nul.vs {n:Nat} {S:Vc α→Prop} {u:Vc α} (a:α) (hu:Nul n S u):Nul n S (vs a u):=
  ⟨fun j hj=>by show mul a (u j)=zero;rw [hu.1 j hj,Fl.mul_zero],fun w hw=>by rw [dotn_vsr,hu.2 w hw,Fl.mul_zero]⟩
theorem Nul.cong {n:Nat} {S S':Vc α→Prop} (h:∀ w,S w↔S' w) (u:Vc α):Nul n S u↔Nul n S' u:=
  ⟨fun hu=>⟨hu.1,fun w hw=>hu.2 w ((h w).2 hw)⟩,fun hu=>⟨hu.1,fun w hw=>hu.2 w ((h w).1 hw)⟩⟩
theorem Nul.of {n m:Nat} {R:Nat→Vc α} {u:Vc α} (h0:∀ j,n≤j→u j=zero) (h:∀ i,i<m→dotn n (R i) u=zero):Nul n (Span m R) u:=by
  refine⟨h0,fun w hw=>?_⟩
  induction hw with
  | zero=>exact qmh u n
  | step c _ hi ih=>rw [dotn_va,dotn_vs,ih,h _ hi,Fl.mul_zero,add_zero]
def nuV (R:Nat→Vc α) (P:Nat→Nat) (m c:Nat):Vc α:=va (vun c) (comb (fun i=>neg (R i c)) (fun i=>vun (P i)) m)
section
variable {n m:Nat} {R:Nat→Vc α} {P:Nat→Nat}
theorem Red.inj (h:Red m R P) {i j:Nat} (hi:i<m) (hj:j<m) (he:P i=P j):i=j:=by
  rcases Nat.lt_trichotomy i j with h1|h1|h1
  · have:=h.inc i j h1 hj;omega
  · exact h1
  · have:=h.inc j i h1 hi;omega
theorem Red.delta (h:Red m R P) {i k:Nat} (hi:i<m) (hk:k<m):R i (P k)=vun i k:=by
  unfold vun
  by_cases he:k=i
  · rw [if_pos he,he,h.one i hi]
  · rw [if_neg he];exact h.alone k i hk hi he
theorem nu_dot (hP:∀ i,i<m→P i<n) {c:Nat} (hc:c<n) (w:Vc α):dotn n w (nuV R P m c)=add (w c) (dotn m (fun i=>neg (R i c)) (fun i=>w (P i))):=by
  rw [nuV,dotn_var,qf5 w c n hc,qkq]
  congr 1
  exact qbw m fun i hi=>by rw [qf5 w (P i) n (hP i hi)]
theorem qqq {c d:Nat} (hd:∀ i,i<m→P i≠d):nuV R P m c d=vun c d:=by
  show add (vun c d) (comb _ _ m d)=_
  rw [qdz,qbw (u':=vz) (w':=vz) m fun i hi=>by rw [vun,if_neg (Ne.symm (hd i hi)),Fl.mul_zero];exact (Fl.mul_zero _).symm,qmh,add_zero]
theorem nu_span (h:Red m R P) (hP:∀ i,i<m→P i<n) (hR:∀ i j,i<m→n≤j→R i j=zero) {fr:List Nat} (hn:fr.Nodup) (hf:∀ c,c∈fr↔c<n∧∀ i,i<m→P i≠c) {N:List (List α)} (hl:N.length=fr.length) (hN:∀ k,k<fr.length→rowV N k=nuV R P m (fr.getD k 0)) (u:Vc α) :
    LSpan N u↔Nul n (Span m R) u:=by
  have hfr:∀ k,k<fr.length→fr.getD k 0<n∧∀ i,i<m→P i≠fr.getD k 0:=fun k hk=>(hf _).1 (getD_mem hk)
  have fwd:∀ u,LSpan N u→Nul n (Span m R) u:=by
    intro u hu
    refine hu.sub Nul.vz (fun _ _=>Nul.va) (fun c _=>Nul.vs c) fun x hx=>?_
    obtain⟨k,hk,rfl⟩:=List.mem_iff_getElem.1 hx
    have hk':k<fr.length:=by omega
    obtain⟨h1,h2⟩:=hfr k hk'
    rw [←qd6 hk,hN k hk']
    refine Nul.of (fun j hj=>?_) fun i hi=>?_
    · rw [qqq (fun i hi=>by have:=hP i hi;omega),vun,if_neg (by omega)]
    · rw [nu_dot hP h1,qbw (u':=fun i=>neg (R i (fr.getD k 0))) (w':=vun i) m (fun l hl=>by rw [h.delta hi hl]),qf5 _ i m hi,add_neg]
  refine⟨fwd u,fun hu=>?_⟩
  have hs:LSpan N (comb (fun k=>u (fr.getD k 0)) (rowV N) N.length):=qgr _ _ _
  generalize he:comb (fun k=>u (fr.getD k 0)) (rowV N) N.length=s at hs
  have hsn:=fwd s hs
  have hfree:∀ k,k<fr.length→s (fr.getD k 0)=u (fr.getD k 0):=by
    intro k hk
    rw [←he,qdz,qbw (u':=fun k=>u (fr.getD k 0)) (w':=vun k),qf5 _ k _ (by omega)]
    intro l hl'
    have hl2:l<fr.length:=by omega
    congr 1
    rw [hN l hl2,qqq (hfr k hk).2]
    unfold vun
    by_cases hlk:l=k
    · rw [if_pos hlk,if_pos (by rw [hlk])]
    · rw [if_neg hlk,if_neg (qgh hn hk hl2 (Ne.symm hlk))]
  have hz:∀ j,j<n→(∀ i,i<m→P i≠j)→s j=u j:=by
    intro j hj hp
    obtain⟨k,hk,rfl⟩:=List.mem_iff_getElem.1 ((hf j).2 ⟨hj,hp⟩)
    have:=hfree k hk
    simpa [List.getD_eq_getElem?_getD,List.getElem?_eq_getElem hk] using this
  have hpv:∀ i,i<m→add (u (P i)) (mul (neg Fl.one) (s (P i)))=zero:=by
    intro i hi
    have ht:=(hu.va (hsn.vs (neg Fl.one))).2 (R i) (Span.row hi)
    rw [qbw (u':=va u (vs (neg Fl.one) s)) (w':=vun (P i)),qf5 _ _ n (hP i hi)] at ht
    · exact ht
    intro j hj
    by_cases hjp:∃ k,k<m∧P k=j
    · obtain⟨k,hk,rfl⟩:=hjp
      rw [h.delta hi hk,mul_comm]
      congr 1
      unfold vun
      by_cases hki:k=i
      · rw [if_pos hki,if_pos (by rw [hki])]
      · rw [if_neg hki,if_neg (fun e=>hki (h.inj hk hi e))]
    · have hp:∀ i,i<m→P i≠j:=fun k hk hkj=>hjp ⟨k,hk,hkj⟩
      have:va u (vs (neg Fl.one) s) j=zero:=by
        show add (u j) (mul (neg Fl.one) (s j))=zero
        rw [hz j hj hp]
        exact congrFun (vneg u) j
      rw [this,Fl.mul_zero,Fl.zero_mul]
  have:u=s:=by
    funext j
    by_cases hj:j<n
    · by_cases hjp:∃ k,k<m∧P k=j
      · obtain⟨k,hk,rfl⟩:=hjp
        exact sub_eq (hpv k hk)
      · exact (hz j hj fun k hk hkj=>hjp ⟨k,hk,hkj⟩).symm
    · rw [hu.1 j (by omega),hsn.1 j (by omega)]
  rw [this]
  exact hs
theorem nul_nul (h:Red m R P) (hP:∀ i,i<m→P i<n) (hR:∀ i j,i<m→n≤j→R i j=zero) (u:Vc α):Nul n (Nul n (Span m R)) u↔Span m R u:=by
  constructor
  · intro hu
    have hs:Span m R (comb (fun i=>u (P i)) R m):=qgr _ _ _
    generalize he:comb (fun i=>u (P i)) R m=s at hs
    have hsP:∀ i,i<m→s (P i)=u (P i):=fun i hi=>by
      rw [←he,qdz,qbw (u':=fun i=>u (P i)) (w':=vun i) m,qf5 _ i m hi]
      intro k hk
      congr 1
      rw [h.delta hk hi]
      unfold vun
      by_cases hki:k=i
      · rw [if_pos hki,if_pos hki.symm]
      · rw [if_neg hki,if_neg (Ne.symm hki)]
    have hs0:∀ j,n≤j→s j=zero:=fun j hj=>by
      rw [←he,qdz,qbw (u':=vz) (w':=vz) m (fun i hi=>by rw [hR i j hi hj,Fl.mul_zero];exact (Fl.mul_zero _).symm),qmh]
    have hsn:Nul n (Nul n (Span m R)) s:=⟨hs0,fun w hw=>by rw [qcc];exact hw.2 s hs⟩
    have ht:=hu.va (hsn.vs (neg Fl.one))
    have:u=s:=by
      funext j
      by_cases hj:j<n
      · by_cases hjp:∃ k,k<m∧P k=j
        · obtain⟨k,hk,rfl⟩:=hjp
          exact (hsP k hk).symm
        · have hp:∀ i,i<m→P i≠j:=fun k hk hkj=>hjp ⟨k,hk,hkj⟩
          have hnu:Nul n (Span m R) (nuV R P m j):=by
            refine Nul.of (fun l hl=>?_) fun i hi=>?_
            · rw [qqq (fun i hi=>by have:=hP i hi;omega),vun,if_neg (by omega)]
            · rw [nu_dot hP hj,qbw (u':=fun i=>neg (R i j)) (w':=vun i) m (fun l hl=>by rw [h.delta hi hl]),qf5 _ i m hi,add_neg]
          have h1:=ht.2 _ hnu
          rw [qcc,nu_dot hP hj,qbw (u':=fun i=>neg (R i j)) (w':=vz) m,qpg,add_zero] at h1
          · exact sub_eq h1
          intro i hi
          congr 1
          show add (u (P i)) (mul (neg Fl.one) (s (P i)))=zero
          rw [hsP i hi]
          exact congrFun (vneg u) _
      · rw [hu.1 j (by omega),hs0 j (by omega)]
    rw [this]
    exact hs
  · intro hu
    refine⟨fun j hj=>?_,fun w hw=>by rw [qcc];exact hw.2 u hu⟩
    obtain⟨c,rfl⟩:=qp6 hu
    rw [qdz,qbw (u':=vz) (w':=vz) m (fun i hi=>by rw [hR i j hi hj,Fl.mul_zero];exact (Fl.mul_zero _).symm),qmh]
end
end
end Go.Sim

namespace Go.Sim
section
variable {α:Type} [Fl α] [DecidableEq α]
open Fl
theorem qgw {β:Type} [DecidableEq β]:∀ (l l':List β),l.Nodup→(∀ x∈l,x∈l')→l.length≤l'.length
  | [],_,_,_=>Nat.zero_le _
  | x :: l,l',hn,hs=>by
    have hn':=List.nodup_cons.1 hn
    have hx:x∈l':=hs x (by simp)
    have h:=qgw l (l'.erase x) hn'.2 (fun y hy=>(List.mem_erase_of_ne (fun e=>hn'.1 (by rw [←e];exact hy))).2 (hs y (by simp [hy])))
    have h2:=List.length_erase_of_mem hx
    have h3:0<l'.length:=List.length_pos_iff.2 (fun e=>by rw [e] at hx;simp at hx)
    simp only [List.length_cons]
    omega
theorem lclr_span {n:Nat} {B:List (List α)} {v:List α} (hB:LRed n B) (hv:v.length=n):lpiv (lclr B v)=(lclr B v).length↔LSpan B (toV v):=by
  have hl:=hB.piv.1
  have hwl:=qg0 hl hv
  obtain⟨s,hs1,hs2⟩:=qmc hl hv B.length (Nat.le_refl _)
  have hz:=qmb hB hv B.length (Nat.le_refl _)
  change toV (lclr B v)=_ at hs2
  change ∀ i,i<B.length→toV (lclr B v) _=zero at hz
  constructor
  · intro h0
    have hw0:toV (lclr B v)=vz:=by
      funext j
      by_cases hj:j<(lclr B v).length
      · exact qct _ _ (by omega)
      · exact qf4 (by omega)
    have h:va (va (toV v) s) (vs (neg Fl.one) s)=toV v:=by rw [qhv,vneg,qfn]
    rw [←h,←hs2,hw0,qpk]
    exact Span.smul _ hs1
  · intro hv2
    have hw:LSpan B (toV (lclr B v)):=by rw [hs2];exact Span.add hv2 hs1
    have hc:=hB.red.coord hw
    have h0:toV (lclr B v)=vz:=by
      rw [hc]
      exact qhn _ _ _ fun i hi=>hz i hi
    have hle:=lpiv_le (lclr B v)
    by_cases hlt:lpiv (lclr B v)<(lclr B v).length
    · exact absurd (congrFun h0 _) (qk7 _ hlt)
    · omega
theorem lhas_iff {n:Nat} {rows:List (List α)} {v:List α} (hl:∀ x∈rows,x.length=n) (hv:v.length=n):lhas rows v=true↔LSpan rows (toV v):=by
  obtain⟨h1,h2,_⟩:=qb5 hl
  rw [lhas,decide_eq_true_iff,←h2,←lclr_span h1 hv,qg0 h1.piv.1 hv,hv]
theorem qq6 {p:Nat} {w:List α}:∀ l:List (List α),(lins p w l).length=l.length+1
  | []=>rfl
  | x :: l=>by
    unfold lins
    split
    · simp
    · simp [qq6 l]
theorem qq1 (B:List (List α)) (v:List α):(lput B v).length=if lpiv (lclr B v)=(lclr B v).length then B.length else B.length+1:=by
  unfold lput
  simp only
  split
  · rfl
  · rw [lputF_lins,qq6]
theorem qm1 (rows:List (List α)) (v:List α):qbz (rows++[v])=lput (qbz rows) v:=by simp [qbz,List.foldl_append]
theorem has_count {n:Nat} {rows:List (List α)} {v:List α} (hl:∀ x∈rows,x.length=n) (hv:v.length=n):decide ((qbz (rows++[v])).length=(qbz rows).length)=lhas rows v:=by
  obtain⟨h1,h2,_⟩:=qb5 hl
  rw [qm1,qq1,lhas,hv,qg0 h1.piv.1 hv]
  split
  · simp [*]
  · simp [*]
theorem lreduce_indep {n:Nat} {rows:List (List α)} (hl:∀ x∈rows,x.length=n) (h:∀ k,k<rows.length→¬LSpan (rows.take k) (toV (rows.getD k []))):(qbz rows).length=rows.length:=by
  have key:∀ k,k≤rows.length→(qbz (rows.take k)).length=k:=by
    intro k
    induction k with
    | zero=>intro _;rfl
    | succ k ih =>
      intro hk
      have hlk:∀ x∈rows.take k,x.length=n:=fun x hx=>hl x (List.mem_of_mem_take hx)
      have hv:=qb7 hl (show k<rows.length by omega)
      have he:rows.take (k+1)=rows.take k++[rows.getD k []]:=by
        rw [List.take_succ_eq_append_getElem (by omega),qcj (by omega)]
      have hh:=h k (by omega)
      rw [←lhas_iff hlk hv,←has_count hlk hv,←he] at hh
      simp only [decide_eq_true_iff] at hh
      rw [he,qm1,qq1] at hh ⊢
      have:=ih (by omega)
      split
      · rename_i h1;rw [if_pos h1] at hh;exact absurd rfl hh
      · omega
  have:=key rows.length (Nat.le_refl _)
  rwa [List.take_length] at this
def qcp (m:Nat) (w:Vc α):Vc α:=fun j=>if j<m then zero else w (j-m)
def vdrop (m:Nat) (v:Vc α):Vc α:=fun j=>v (j+m)
theorem qpz (m:Nat) (w:Vc α):vdrop m (qcp m w)=w:=by
  funext j
  show (if j+m<m then zero else w (j+m-m))=w j
  rw [if_neg (by omega),Nat.add_sub_cancel]
theorem vshift_drop {m:Nat} {v:Vc α} (h:∀ j,j<m→v j=zero):qcp m (vdrop m v)=v:=by
  funext j
  unfold qcp vdrop
  split
  · rename_i hj;exact (h j hj).symm
  · congr 1;omega
theorem vshift_va (m:Nat) (u v:Vc α):qcp m (va u v)=va (qcp m u) (qcp m v):=by
  funext j
  show (if _ then _ else _)=add (if _ then _ else _) (if _ then _ else _)
  split
  · exact (add_zero _).symm
  · rfl
theorem vshift_vs (m:Nat) (c:α) (v:Vc α):qcp m (vs c v)=vs c (qcp m v):=by
  funext j
  show (if _ then _ else _)=mul c (if _ then _ else _)
  split
  · exact (Fl.mul_zero _).symm
  · rfl
theorem vshift_vz (m:Nat):qcp m (vz:Vc α)=vz:=by
  funext j
  unfold qcp;split<;>rfl
theorem qj1 (x:List α) (m:Nat):toV (x.drop m)=vdrop m (toV x):=by
  funext j
  simp only [toV,vdrop,List.getD_eq_getElem?_getD,List.getElem?_drop,Nat.add_comm]
def ltail (m:Nat) (L:List (List α)):List (List α):=(L.filter fun l=>decide (m≤lpiv l)).map fun l=>l.drop m
theorem qq3 {x:List α} {m:Nat} (h:m≤lpiv x) (hx:lpiv x<x.length):lpiv (x.drop m)=lpiv x-m:=by
  refine qq2 (by rw [List.length_drop];omega) (fun j hj=>?_) ?_
  · have:=congrFun (qj1 x m) j
    refine this.trans (qct x (j+m) (by omega))
  · have h1:=congrFun (qj1 x m) (lpiv x-m)
    intro h2
    have h3:=h1.symm.trans h2
    unfold vdrop at h3
    rw [Nat.sub_add_cancel h] at h3
    exact qk7 x hx h3
theorem ltail_red {m n:Nat} {L:List (List α)} (h:LRed (m+n) L):LRed n (ltail m L)∧∀ u,LSpan (ltail m L) u↔LSpan L (qcp m u):=by
  have mem:∀ x∈L.filter (fun l=>decide (m≤lpiv l)),x∈L∧m≤lpiv x:=fun x hx=>by simpa using List.mem_filter.1 hx
  have at_:∀ (x:List α) j,m≤j→(x.drop m).getD (j-m) zero=x.getD j zero:=fun x j hj=>by
    have:=congrFun (qj1 x m) (j-m)
    unfold vdrop at this
    rw [Nat.sub_add_cancel hj] at this
    exact this
  refine⟨⟨fun y hy=>?_,?_⟩,fun u=>⟨fun hu=>?_,fun hu=>?_⟩⟩
  · obtain⟨x,hx,rfl⟩:=List.mem_map.1 hy
    obtain⟨hxL,hp⟩:=mem x hx
    obtain⟨h1,h2,h3⟩:=h.row x hxL
    rw [qq3 hp (by omega),at_ x _ hp]
    exact⟨by rw [List.length_drop];omega,by omega,h3⟩
  · unfold ltail
    rw [List.pairwise_map]
    refine (h.pw.filter _).imp_of_mem fun {a b} ha hb hab=>?_
    obtain⟨haL,hpa⟩:=mem a ha
    obtain⟨hbL,hpb⟩:=mem b hb
    have ra:=h.row a haL
    have rb:=h.row b hbL
    rw [qq3 hpa (by omega),qq3 hpb (by omega),at_ a _ hpb,at_ b _ hpa]
    exact⟨by have:=hab.1;omega,hab.2⟩
  · refine hu.sub (S:=fun u=>LSpan L (qcp m u)) ?_ (fun u v hu hv=>?_) (fun c u hu=>?_) (fun y hy=>?_)
    · show LSpan L (qcp m vz);rw [vshift_vz];exact .zero
    · show LSpan L (qcp m (va u v));rw [vshift_va];exact Span.add hu hv
    · show LSpan L (qcp m (vs c u));rw [vshift_vs];exact Span.smul _ hu
    · obtain⟨x,hx,rfl⟩:=List.mem_map.1 hy
      obtain⟨hxL,hp⟩:=mem x hx
      show LSpan L (qcp m (toV (x.drop m)))
      rw [qj1,vshift_drop (v:=toV x) (fun j hj=>qct x j (by omega))]
      exact LSpan.mem hxL
  · have hc:=h.red.coord hu
    obtain⟨c,hcd⟩:∃ c:Nat→α,c=fun i=>qcp m u (lpiv (L.getD i [])):=⟨_,rfl⟩
    rw [←hcd] at hc
    have hz:∀ i,i<L.length→c i=zero∨m≤lpiv (L.getD i []):=fun i hi=>by
      rw [hcd]
      by_cases hlt:lpiv (L.getD i [])<m
      · left;show qcp m u _=zero;unfold qcp;rw [if_pos hlt]
      · right;omega
    have key:∀ k,k≤L.length→LSpan (ltail m L) (vdrop m (comb c (rowV L) k)):=by
      intro k
      induction k with
      | zero=>intro _;exact .zero
      | succ k ih =>
        intro hk
        show LSpan (ltail m L) (va (vdrop m (comb c (rowV L) k)) (vs (c k) (vdrop m (rowV L k))))
        rcases hz k (by omega) with h0|h0
        · rw [show c k=zero from h0,vs_zero,qfn];exact ih (by omega)
        · refine Span.add (ih (by omega)) (Span.smul _ ?_)
          rw [qd6 (show k<L.length by omega),←qj1]
          rw [qcj (show k<L.length by omega)] at h0
          exact LSpan.mem (List.mem_map.2 ⟨_,List.mem_filter.2 ⟨List.getElem_mem _,by simpa using h0⟩,rfl⟩)
    have:=key L.length (Nat.le_refl _)
    rw [←hc,qpz] at this
    exact this
theorem laug_row {n:Nat} (rows:List (List α)) {j:Nat} (hj:j<n) (i:Nat):rowV (laug n rows) j i=if i<rows.length then rowV rows i j else vun j (i-rows.length):=by
  have hl:j<(laug n rows).length:=by simpa [laug] using hj
  rw [qd6 hl]
  have he:(laug n rows)[j]=rows.map (fun r=>r.getD j zero)++lunit n j:=by simp [laug]
  rw [he]
  unfold toV
  rw [List.getD_eq_getElem?_getD]
  split
  · rename_i hi
    rw [List.getElem?_append_left (by simpa using hi)]
    simp [rowV,toV,List.getD_eq_getElem?_getD,List.getElem?_eq_getElem hi]
  · rename_i hi
    rw [List.getElem?_append_right (by simpa using Nat.le_of_not_lt hi),List.length_map,←List.getD_eq_getElem?_getD,lunit,getD_set (by simpa using hj),vun]
    split
    · rfl
    · simp [List.getD_eq_getElem?_getD,List.getElem?_replicate]
      split<;>rfl
theorem qp2 {n:Nat} {L:List (List α)} (hl:∀ x∈L,x.length=n) {i j:Nat} (hi:i<L.length) (hj:n≤j):rowV L i j=zero:=by
  rw [qd6 hi];exact qf4 (by rw [hl _ (List.getElem_mem hi)];exact hj)
theorem qgz {n:Nat} {rows:List (List α)} (hl:∀ x∈rows,x.length=n):LRed n (qcf n rows)∧∀ u,LSpan (qcf n rows) u↔Nul n (LSpan rows) u:=by
  obtain⟨h1,h2,_⟩:=qb5 (laug_len (n:=n) (rows:=rows) rfl)
  obtain⟨h3,h4⟩:=ltail_red h1
  refine⟨h3,fun u=>(h4 u).trans ((h2 _).trans ?_)⟩
  have hlen:(laug n rows).length=n:=by simp [laug]
  have hdot:∀ i,i<rows.length→∀ c:Vc α,dotn n c (fun j=>rowV (laug n rows) j i)=dotn n c (rowV rows i):=fun i hi c=>qbw n fun j hj=>by rw [laug_row rows hj,if_pos hi]
  have htail:∀ i,∀ c:Vc α,dotn n c (fun j=>rowV (laug n rows) j (i+rows.length))=if i<n then c i else zero:=fun i c=>by
    rw [qbw (u':=c) (w':=vun i) n fun j hj=>by
      rw [laug_row rows hj,if_neg (by omega),Nat.add_sub_cancel]
      congr 1
      unfold vun
      by_cases h:i=j
      · rw [if_pos h,if_pos h.symm]
      · rw [if_neg h,if_neg (Ne.symm h)]]
    split
    · rename_i h;exact qf5 c i n h
    · rename_i h;exact qmj c i n (by omega)
  constructor
  · intro h
    obtain⟨c,hc⟩:=qp6 h
    rw [hlen] at hc
    have hu:∀ i,u i=if i<n then c i else zero:=fun i=>by
      have h5:=congrFun hc (i+rows.length)
      rw [qdz,htail] at h5
      rw [←h5]
      exact (congrFun (qpz rows.length u) i).symm
    refine Nul.of (fun j hj=>by rw [hu j,if_neg (by omega)]) fun i hi=>?_
    have h6:=congrFun hc i
    rw [qdz,hdot i hi] at h6
    have h7:qcp rows.length u i=zero:=by unfold qcp;rw [if_pos hi]
    rw [h7,qcc] at h6
    rw [h6]
    exact qbw n fun j hj=>by rw [hu j,if_pos hj]
  · intro h
    have:qcp rows.length u=comb u (rowV (laug n rows)) (laug n rows).length:=by
      rw [hlen]
      funext i
      rw [qdz]
      by_cases hi:i<rows.length
      · rw [hdot i hi,qcc]
        unfold qcp
        rw [if_pos hi]
        exact (h.2 _ (Span.row hi)).symm
      · have hi':i=(i-rows.length)+rows.length:=by omega
        generalize i-rows.length=k at hi'
        subst hi'
        rw [htail]
        unfold qcp
        rw [if_neg hi,Nat.add_sub_cancel]
        split
        · rfl
        · exact h.1 k (by omega)
    rw [this]
    exact qgr _ _ _
theorem kernel_kernel {n:Nat} {rows:List (List α)} (hl:∀ x∈rows,x.length=n):qcf n (qcf n rows)=qbz rows:=by
  obtain⟨h1,h2⟩:=qgz hl
  obtain⟨h3,h4⟩:=qgz h1.piv.1
  obtain⟨h5,h6,_⟩:=qb5 hl
  refine h3.unique h5 fun u=>(h4 u).trans ?_
  rw [Nul.cong h2,Nul.cong (S':=Nul n (LSpan (qbz rows))) (fun w=>Nul.cong (fun v=>(h6 v).symm) w)]
  exact nul_nul h5.red (fun i hi=>(h5.row _ (getD_mem hi)).2.1) (fun i j hi hj=>qp2 h5.piv.1 hi hj) u
end
end Go.Sim

namespace Go.Sim
section
variable {α:Type} [Fl α] [DecidableEq α]
open Fl
theorem RedTo.red {n:Nat} {M:List (List α)} {P:List Nat} {w:Nat} (h:RedTo n w M P):Red P.length (rowV M) (fun i=>P.getD i 0):=
  ⟨h.inc,h.one,fun i k hi hk hne=>h.alone i k hi (by have:=h.len;omega) (Ne.symm hne),h.lead⟩
end
end Go.Sim
