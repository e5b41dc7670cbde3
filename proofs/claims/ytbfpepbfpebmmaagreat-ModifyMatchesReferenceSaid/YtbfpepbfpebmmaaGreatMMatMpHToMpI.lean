/- Part of the proof: MpH, MpI. -/
import Derived.Test.YtbfpepbfpebmmaaGreatMMatMpG
import Derived.Test.YtbfpepbfpebmmaaGreatMMatZSpX1ToMpC
import Derived.Test.YtbfpepbfpebmmaaGreatMMatMoTToMoN
import Derived.Test.YtbfpepbfpebmmaaGreatMMatMoO
set_option linter.all false
namespace Go.Sim
section
variable {α β:Type} [Fl α] [Fl β] [DecidableEq α] [DecidableEq β]
structure Bit2 (b0 b1:α→β) (two:α) (lift:β→α):Prop where
  add0:∀ x y,b0 (Fl.add x y)=Fl.add (b0 x) (b0 y)
  add1:∀ x y,b1 (Fl.add x y)=Fl.add (b1 x) (b1 y)
  lift0:∀ c x,b0 (Fl.mul (lift c) x)=Fl.mul c (b0 x)
  lift1:∀ c x,b1 (Fl.mul (lift c) x)=Fl.mul c (b1 x)
  dec:∀ c x,Fl.mul c x=Fl.add (Fl.mul (lift (b0 c)) x) (Fl.mul (lift (b1 c)) (Fl.mul two x))
  inj:∀ x y,b0 x=b0 y→b1 x=b1 y→x=y
  zero0:b0 Fl.zero=Fl.zero
  zero1:b1 Fl.zero=Fl.zero
  one1:b1 Fl.one=Fl.zero
  two1:b1 two=Fl.one
variable {b0 b1:α→β} {two:α} {lift:β→α}
def lrep (b0 b1:α→β) (m:Nat) (g h:List β) (x:List α):List β:=x.flatMap fun a=>(List.range m).map fun j=>Fl.add (Fl.mul (b0 a) (g.getD j Fl.zero)) (Fl.mul (b1 a) (h.getD j Fl.zero))
theorem lrep_len (m:Nat) (g h:List β):∀ x:List α,(lrep b0 b1 m g h x).length=x.length*m
  | []=>by simp [lrep]
  | a :: x=>by
    have:=lrep_len m g h x
    unfold lrep at this ⊢
    rw [List.flatMap_cons,List.length_append,this,List.length_map,List.length_range,List.length_cons,Nat.succ_mul,Nat.add_comm]
section
variable (B:Bit2 b0 b1 two lift) {m:Nat} {g h:List β}
include B
end
theorem lrep_cd {cda:α→Nat} {cdb:β→Nat} (h0:∀ a,cdb (b0 a)=cda a % 2) (h1:∀ a,cdb (b1 a)=cda a / 2) (hz:cdb Fl.zero=0) (hc:∀ x y z w:β,cdb (Fl.add (Fl.mul x y) (Fl.mul z w))=(cdb x*cdb y+cdb z*cdb w) % 2) (m:Nat) (g h:List β) (x:List α) :
    (lrep b0 b1 m g h x).map cdb=repL m (g.map cdb) (h.map cdb) (x.map cda):=by
  have hg:∀ (l:List β) j,(l.map cdb).getD j 0=cdb (l.getD j Fl.zero):=fun l j=>by
    simp only [List.getD_eq_getElem?_getD,List.getElem?_map]
    cases l[j]? with
    | none=>exact hz.symm
    | some a=>rfl
  induction x with
  | nil=>rfl
  | cons a x ih =>
    unfold lrep repL at ih ⊢
    rw [List.flatMap_cons,List.map_append,ih,List.map_cons,List.flatMap_cons,List.map_map]
    congr 1
    refine List.map_congr_left fun j hj=>?_
    show cdb (Fl.add _ _)=repE _ _ _ _
    unfold repE
    rw [hc,h0,h1,hg,hg]
end
open Go Go.Proofs
namespace Pf
theorem fq42:∃ (α β:Type) (i1:Fl α) (i2:Fl β) (_:DecidableEq α) (_:DecidableEq β) (cda:α→Nat) (cdb:β→Nat) (p e p2 e2:Nat) (blk blk2:AB) (b0 b1:α→β) (two:α) (lift:β→α),
    FQ α cda p e (ordM 2) blk∧FQ β cdb p2 e2 2 blk2∧Bit2 b0 b1 two lift∧cda two=2∧(∀ a,cdb (b0 a)=cda a % 2)∧(∀ a,cdb (b1 a)=cda a / 2)∧(∀ x y z w:β,cdb (Fl.add (Fl.mul x y) (Fl.mul z w))=(cdb x*cdb y+cdb z*cdb w) % 2):=by
  letI i4:=flOf ft4
  letI i2:=flOf ft2
  refine⟨{n:Nat // n<2 ^ 2},{n:Nat // n<2 ^ 1},i4,i2,inferInstance,inferInstance,fun x=>x.1,fun x=>x.1,_,_,_,_,_,_,fun a=>⟨a.1 % 2,Nat.mod_lt _ (by decide)⟩,fun a=>⟨a.1 / 2,by have:=a.2;omega⟩,⟨2,by decide⟩,fun c=>⟨c.1,Nat.lt_trans c.2 (by decide)⟩,
    fq_of ft4 rfl (by decide +kernel) (qd0 _ (List.mem_of_getElem? (i:=4) rfl)) (qd9 _ (List.mem_of_getElem? (i:=4) rfl)),fq_of ft2 rfl (by decide +kernel) (qd0 _ (List.mem_of_getElem? (i:=2) rfl)) (qd9 _ (List.mem_of_getElem? (i:=2) rfl)),⟨?_,?_,?_,?_,?_,?_,?_,?_,?_,?_⟩,rfl,fun _=>rfl,fun _=>rfl,?_⟩
  · exact fun x y=>Subtype.ext ((by decide +kernel:∀ x,x<2 ^ 2→∀ y,y<2 ^ 2→addF 2 2 x y % 2=addF 2 1 (x % 2) (y % 2)) x.1 x.2 y.1 y.2)
  · exact fun x y=>Subtype.ext ((by decide +kernel:∀ x,x<2 ^ 2→∀ y,y<2 ^ 2→addF 2 2 x y / 2=addF 2 1 (x / 2) (y / 2)) x.1 x.2 y.1 y.2)
  · exact fun c x=>Subtype.ext ((by decide +kernel:∀ c,c<2 ^ 1→∀ x,x<2 ^ 2→mulF 2 2 [1,1] c x % 2=mulF 2 1 [0] c (x % 2)) c.1 c.2 x.1 x.2)
  · exact fun c x=>Subtype.ext ((by decide +kernel:∀ c,c<2 ^ 1→∀ x,x<2 ^ 2→mulF 2 2 [1,1] c x / 2=mulF 2 1 [0] c (x / 2)) c.1 c.2 x.1 x.2)
  · exact fun c x=>Subtype.ext ((by decide +kernel:∀ c,c<2 ^ 2→∀ x,x<2 ^ 2→mulF 2 2 [1,1] c x=addF 2 2 (mulF 2 2 [1,1] (c % 2) x) (mulF 2 2 [1,1] (c / 2) (mulF 2 2 [1,1] 2 x))) c.1 c.2 x.1 x.2)
  · intro x y h1 h2
    have h1:=congrArg Subtype.val h1
    have h2:=congrArg Subtype.val h2
    simp only at h1 h2
    exact Subtype.ext (by omega)
  · rfl
  · exact Subtype.ext (Nat.zero_div 2)
  · exact Subtype.ext (show 1 / 2=0 by decide)
  · first|rfl|exact Subtype.ext (show 2 / 2=1 by decide)
  · exact fun x y z w=>(by decide +kernel:∀ x,x<2 ^ 1→∀ y,y<2 ^ 1→∀ z,z<2 ^ 1→∀ w,w<2 ^ 1→addF 2 1 (mulF 2 1 [0] x y) (mulF 2 1 [0] z w)=(x*y+z*w) % 2) x.1 x.2 y.1 y.2 z.1 z.2 w.1 w.2
end Pf
end Go.Sim

namespace Go.Sim
open Go Go.Proofs
theorem replaced_c {H:AH} {v vi:Value} {m:Nat} {us:List Nat} {B:List (List Nat)} (hvi:RowR H vi (B.map fun l=>l.map nv)) (hB:B.length=2) (hBl:∀ l∈B,l.length=m∧∀ z∈l,z<2)
    (hv:Row H v (us.map nv)) (hus:∀ u∈us,u<4) (hul:us.length*m≤1000) (hm:m≤1000) (hul2:us.length≤1000) :
    FN Tryz.prog 43 [codv 2 m vi,v] H (fun r H'=>Pre H H'∧Row H' r ((repL m (B.getD 0 []) (B.getD 1 []) us).map nv)):=by
  refine g43_of ?_
  unfold g43
  have hio:=hvi.one'
  have hX:=Pre.new H [.cells [nv 2,nv m,vi] 29 none false]
  obtain⟨vs,hvs,hvl,hvr⟩:=hvi.openN
  obtain⟨hg0,hg1⟩:=hBl _ (getD_mem (l:=B) (k:=0) (d:=[]) (by omega))
  obtain⟨hh0,hh1⟩:=hBl _ (getD_mem (l:=B) (k:=1) (d:=[]) (by omega))
  have r0:=hvr 0 (by omega)
  have r1:=hvr 1 (by omega)
  obtain⟨g,hg⟩:∃ g,g=B.getD 0 []:=⟨_,rfl⟩
  obtain⟨h,hh⟩:∃ h,h=B.getD 1 []:=⟨_,rfl⟩
  rw [←hg] at hg0 hg1 r0 ⊢
  rw [←hh] at hh0 hh1 r1 ⊢
  obtain⟨w0,hw0⟩:∃ w,w=vs.getD 0 undef:=⟨_,rfl⟩
  obtain⟨w1,hw1⟩:∃ w,w=vs.getD 1 undef:=⟨_,rfl⟩
  rw [←hw0] at r0
  rw [←hw1] at r1
  simp (disch:=omega) only [zA,zB,zC,zD,zF,zG,zH,↓reduceIte,hio]
  obtain⟨HX,hHX⟩:∃ HX,HX=H++[.cells [nv 2,nv m,vi] 29 none false]:=⟨_,rfl⟩
  have gi:HX[H.length]? = some (.cells [nv 2,nv m,vi] 29 none false):=by rw [hHX];simp
  have hXl:HX.length=H.length+1:=by rw [hHX];simp
  have e0:H++[.cells [nv 2,nv m,vi] 29 none false,.cells [] 3 none false]=HX++[.cells [] 3 none false]:=by rw [hHX];simp
  rw [e0]
  rw [←hHX] at hX
  refine loopV2.nat us.length (fun k out i H'=>i=nv k∧Pre HX H'∧Acc HX H' out ((repL m g h (us.take k)).map nv) 3) ⟨rfl,Pre.new _ _,?_⟩ ?_ ?_
  · have:=Own.new (H0:=HX) (H:=HX) (Nat.le_refl _) (cs:=[]) (e:=3) rfl (Y:=[])
    have:=this.acc
    rw [hXl] at this
    simpa [repL] using this
  · rintro k out i H1 hk ⟨rfl,hp1,ho⟩ J hJ
    obtain⟨vl,_,_,_⟩:=(hv.pre (hX.trans hp1)).all 0
    have hu4:us.getD k 0<4:=hus _ (getD_mem hk)
    obtain⟨u,hu⟩:∃ u,u=us.getD k 0:=⟨_,rfl⟩
    have hkm:(k+1)*m≤1000:=Nat.le_trans (Nat.mul_le_mul_right m hk) hul
    have hkm':k*m+m≤1000:=by rw [Nat.succ_mul] at hkm;exact hkm
    have hlen0:(repL m g h (us.take k)).length=k*m:=by rw [qp3,List.length_take,Nat.min_eq_left (by omega)]
    have hus':us.take (k+1)=us.take k++[u]:=by
      rw [List.take_succ_eq_append_getElem hk,hu]
      simp [List.getD_eq_getElem?_getD,List.getElem?_eq_getElem hk]
    rw [←hu] at hu4
    simp (disch:=omega) only [zA,zB,zC,zD,zF,zG,zH,↓reduceIte,vl,hk]
    refine loopV2.nat m (fun j out i H'=>i=nv j∧Pre HX H'∧Acc HX H' out ((repL m g h (us.take k)++(List.range j).map (repE g h u)).map nv) 3) ⟨rfl,hp1,by simpa using ho⟩ ?_ ?_
    · rintro j out i H2 hj ⟨rfl,hp2,ho2⟩ J2 hJ2
      have hpp:=hX.trans hp2
      have c2:=hp2.get gi
      obtain⟨_,vi',vd,_⟩:=(hv.pre hpp).all 0
      obtain⟨tl,ti,td,_⟩:=(hvs.pre hpp).allV
      have t0:=ti 0 (by omega)
      have t1:=ti 1 (by omega)
      have d0:=td 0 (by omega)
      have d1:=td 1 (by omega)
      rw [←hw0] at d0
      rw [←hw1] at d1
      have vdk:=vd k hk
      rw [←hu] at vdk
      obtain⟨_,i0,e0,_⟩:=(r0.pre hpp).all 0
      obtain⟨_,i1,e1,_⟩:=(r1.pre hpp).all 0
      have hjg:j<g.length:=by omega
      have hjh:j<h.length:=by omega
      have hz2:¬(2:Nat)=0:=by decide
      have hud:u / 2<4611686018427387904:=by omega
      obtain⟨q3,q3'⟩:=mul_bit (a:=u % 2) (b:=g.getD j 0) (by omega) (qqc hg1)
      obtain⟨q4,q4'⟩:=mul_bit (a:=u / 2) (b:=h.getD j 0) (by omega) (qqc hh1)
      have hl2:((repL m g h (us.take k)++(List.range j).map (repE g h u)).map nv).length≤1000:=by simp [hlen0];omega
      obtain⟨out',H5,e5,ho',hp',_⟩:=ho2.app1 (by_:=8) hp2.len (u:=nv ((u % 2*g.getD j 0+u / 2*h.getD j 0) % 2)) rfl (by omega) (by omega) (e2:=3)
      have f5:qbr [nv 0] [(0,1)] [nv ((u % 2*g.getD j 0+u / 2*h.getD j 0) % 2)]=some [nv ((u % 2*g.getD j 0+u / 2*h.getD j 0) % 2)]:=rfl
      simp (disch:=omega) only [zA,zB,zC,zD,zF,zG,zH,↓reduceIte,hj,c2,vi',vdk,hk,hz2,hud,t0,t1,d0,d1,i0,i1,e0,e1,hjg,hjh,q3,q4,f5,e5]
      refine hJ2 _ _ _ ⟨rfl,hp' hp2,?_⟩
      have e:(repL m g h (us.take k)++(List.range (j+1)).map (repE g h u)).map nv=(repL m g h (us.take k)++(List.range j).map (repE g h u)).map nv++[nv ((u % 2*g.getD j 0+u / 2*h.getD j 0) % 2)]:=by
        simp [List.range_succ,repE]
      rw [e]
      exact ho'
    · rintro out i H2 ⟨rfl,hp2,ho2⟩ J2
      have c2:=hp2.get gi
      simp (disch:=omega) only [zA,zB,zC,zD,zF,zG,zH,↓reduceIte,c2]
      refine hJ _ _ _ ⟨rfl,hp2,?_⟩
      rw [hus',repL_snoc]
      exact ho2
  · rintro out i H1 ⟨rfl,hp1,ho⟩ J
    obtain⟨vl,_,_,_⟩:=(hv.pre (hX.trans hp1)).all 0
    rw [List.take_length] at ho
    simp (disch:=omega) only [zA,zB,zC,zD,zF,zG,zH,↓reduceIte,vl]
    exact⟨hX.trans hp1,ho.row⟩
section
variable {α:Type} [Fl α] [DecidableEq α] {cd:α→Nat} {p e b c q:Nat} {blk:AB} {H:AH}
end
end Go.Sim
