/- Part of the proof: MpJ. -/
import Derived.Test.YtbfpepbfpebmmaaGreatMRepMpGToMpI
set_option linter.all false
namespace Go.Sim
open Go Go.Proofs
theorem pow4 (k:Nat):2 ^ (2*k)=4 ^ k:=by rw [Nat.pow_mul]
set_option maxRecDepth 4000 in
set_option maxHeartbeats 4000000 in
theorem law7 (hE:ExMo) {H:AH} {x y:Value} {us ws:List Nat} {k n m k2 n2 m2:Nat} (hm:m<256) (hm2:m2<256) (hn2:n2<256) (hus:∀ u∈us,u<256) (hws:∀ u∈ws,u<256) (hx:Row H x (us.map bv)) (hy:Row H y (ws.map bv)) :
    FN Tryz.prog 7 [rawv k n m x,rawv k2 n2 m2 y] H (fun r H'=>r=.bool true∧H'=H):=by
  refine FN.pre0 (g7_of ?_) rfl
  unfold g7
  have hxo:=hx.one
  have hyo:=hy.one
  simp (disch:=(first|omega|(simp only [stLen]<;>omega)|(simp only [all_nv];done)|rfl)) only [zA,zB,zC,zD,zF,zG,zH,Nat.reduceEqDiff,Nat.reduceLT,Nat.reduceLeDiff,↓reduceIte]
  refine FZ.use (hE _) ?_
  have hX0:=Pre.new H [.cells [bv k,bv n,bv m,x] 24 none false,.cells [bv k2,bv n2,bv m2,y] 24 none false]
  simp (disch:=(first|omega|(simp only [stLen]<;>omega)|(simp only [all_nv];done)|rfl)) only [zA,zB,zC,zD,zF,zG,zH,Nat.reduceEqDiff,Nat.reduceLT,Nat.reduceLeDiff,↓reduceIte]
  obtain⟨HX,hHX⟩:∃ HX,HX=H++[.cells [bv k,bv n,bv m,x] 24 none false,.cells [bv k2,bv n2,bv m2,y] 24 none false]:=⟨_,rfl⟩
  have gx1:HX[H.length+1]? = some (.cells [bv k2,bv n2,bv m2,y] 24 none false):=by rw [hHX];simp
  rw [←hHX] at hX0 ⊢
  clear hHX
  obtain⟨α,β,i1,i2,i3,i4,cda,cdb,p,e,p2,e2,blk,blk2,b0,b1,two,lift,Q4,Q2,BB,h2,hb0,hb1,hcc⟩:=Pf.fq42
  refine FZ.mono (outer_c Q4 hm hus (hx.pre hX0)) ?_
  rintro _ H4 ⟨hp4,va,A,rfl,hA,hA4,hva⟩
  have Q4':FQ α cda p e 4 blk:=Q4
  obtain⟨na,hna⟩:∃ na,na=1+n % 4:=⟨_,rfl⟩
  have hna1:1≤na∧na≤4:=by omega
  rw [←hna] at hA ⊢
  have sa:=stB_three (H:=H4++[.cells [nv 0,nv 0,.slice none 0 0] 29 none false]) (bl:=H4.length) (x:=nv 4) (y:=nv na) (z:=va) (c0:=nv 0) (c1:=nv 0) (c2:=.slice none 0 0) (e:=29) (op:=none) rfl rfl hva.one
  rw [set_last] at sa
  have gx6:=get_app (hp4.get gx1) [.cells [nv 4,nv na,va] 29 none false]
  simp (disch:=(first|omega|(simp only [stLen]<;>omega)|(simp only [all_nv];done)|rfl)) only [zA,zB,zC,zD,zF,zG,zH,Nat.reduceEqDiff,Nat.reduceLT,Nat.reduceLeDiff,↓reduceIte,sa,gx6]
  have hp46:=Pre.new H4 [.cells [nv 4,nv na,va] 29 none false]
  obtain⟨H6,hH6⟩:∃ H6,H6=H4++[.cells [nv 4,nv na,va] 29 none false]:=⟨_,rfl⟩
  have ga6:H6[H4.length]? = some (.cells [nv 4,nv na,va] 29 none false):=by rw [hH6];simp
  rw [←hH6] at hp46 ⊢
  have hA6:=hva.rowR.pre hp46
  have hX6:=hX0.trans (hp4.trans hp46)
  clear hH6 sa gx6
  refine FZ.mono (inner_c Q2 hm2 hn2 hws (hy.pre hX6)) ?_
  rintro _ H7 ⟨hp7,vb,B,rfl,hB,hB2,hvb⟩
  obtain⟨nb,hnb⟩:∃ nb,nb=2+n2 % 4:=⟨_,rfl⟩
  have hnb1:2≤nb∧nb≤5:=by omega
  rw [←hnb] at hB ⊢
  have sb:=stB_three (H:=H7++[.cells [nv 0,nv 0,.slice none 0 0] 29 none false]) (bl:=H7.length) (x:=nv 2) (y:=nv nb) (z:=vb) (c0:=nv 0) (c1:=nv 0) (c2:=.slice none 0 0) (e:=29) (op:=none) rfl rfl hvb.one
  rw [set_last] at sb
  have hp79:=Pre.new H7 [.cells [nv 2,nv nb,vb] 29 none false]
  have ga9:=(hp7.trans hp79).get ga6
  simp (disch:=(first|omega|(simp only [stLen]<;>omega)|(simp only [all_nv];done)|rfl)) only [zA,zB,zC,zD,zF,zG,zH,Nat.reduceEqDiff,Nat.reduceLT,Nat.reduceLeDiff,↓reduceIte,sb,ga9]
  obtain⟨H9,hH9⟩:∃ H9,H9=H7++[.cells [nv 2,nv nb,vb] 29 none false]:=⟨_,rfl⟩
  have gb9:H9[H7.length]? = some (.cells [nv 2,nv nb,vb] 29 none false):=by rw [hH9];simp
  rw [←hH9] at hp79 ga9 ⊢
  have hA9:=hA6.pre (hp7.trans hp79)
  have hB9:=hvb.rowR.pre hp79
  have hX9:=hX6.trans (hp7.trans hp79)
  clear hH9 sb
  obtain⟨g,hg⟩:∃ g,g=B.getD 0 []:=⟨_,rfl⟩
  obtain⟨h,hh⟩:∃ h,h=B.getD 1 []:=⟨_,rfl⟩
  have hnm:na*nb≤20:=Nat.mul_le_mul hna1.2 hnb1.2
  have hnm1:1≤na*nb:=Nat.mul_pos hna1.1 (by omega)
  have hrep:∀ x:List α,(lrep b0 b1 nb g h x).map cdb=repL nb ((B.getD 0 []).map cdb) ((B.getD 1 []).map cdb) (x.map cda):=fun x=>by
    rw [←hg,←hh];exact lrep_cd hb0 hb1 (Q2.ok 0).zero hcc nb g h x
  have hnb0:0<nb:=by omega
  refine FZ.mono (concat26_c Q4' Q2 h2 (lrep b0 b1 nb g h) hrep hA9 hB9 hA.len hB.len hB2 (by omega) hna1.1 hnb0 (by omega)) ?_
  rintro _ H10 ⟨hp10,vc,rfl,hvc⟩
  have hcl:∀ y∈(lcat two A).map (lrep b0 b1 nb g h),y.length=na*nb:=by
    intro y hy
    obtain⟨x,hx,rfl⟩:=List.mem_map.1 hy
    rw [lrep_len]
    rcases List.mem_append.1 hx with h|h
    · rw [hA.len x h]
    · obtain⟨z,hz,rfl⟩:=List.mem_map.1 h;rw [List.length_map,hA.len z hz]
  obtain⟨hG,hGs,_⟩:=lreduce_red hcl
  have hGd:=lcat_dim BB hB hB2 hg hh hnb0 hA
  obtain⟨G,hGe⟩:∃ G,G=lreduce ((lcat two A).map (lrep b0 b1 nb g h)):=⟨_,rfl⟩
  rw [←hGe] at hG hGs hGd hvc
  have hspan:∀ u,LSpan G u↔∃ v,LSpan A v∧u=vrep b0 b1 nb g h v:=fun u=>(hGs u).trans (lcat_span BB hnb0 hA.len u)
  have sc:=stB_four (H:=H10++[.cells [nv 0,nv 0,.slice none 0 0,nv 0] 37 none false]) (bl:=H10.length) (x:=nv 2) (y:=nv (na*nb)) (z:=vc) (u:=nv 0) (c0:=nv 0) (c1:=nv 0) (c2:=.slice none 0 0) (c3:=nv 0) (e:=37) (op:=none) rfl rfl hvc.one rfl
  rw [set_last] at sc
  have hp12:=Pre.new H10 [.cells [nv 2,nv (na*nb),vc,nv 0] 37 none false]
  have gc12:(H10++[.cells [nv 2,nv (na*nb),vc,nv 0] 37 none false])[H10.length]? = some (.cells [nv 2,nv (na*nb),vc,nv 0] 37 none false):=by simp
  simp (disch:=(first|omega|(simp only [stLen]<;>omega)|(simp only [all_nv];done)|rfl)) only [zA,zB,zC,zD,zF,zG,zH,Nat.reduceEqDiff,Nat.reduceLT,Nat.reduceLeDiff,↓reduceIte,sc]
  obtain⟨H12,hH12⟩:∃ H12,H12=H10++[.cells [nv 2,nv (na*nb),vc,nv 0] 37 none false]:=⟨_,rfl⟩
  rw [←hH12] at hp12 gc12 ⊢
  have hC12:=hvc.rowR.pre hp12
  clear hH12 sc
  have hp912:=hp10.trans hp12
  refine FZ.mono (rvalid_c Q2 (by omega) hC12 hG (by omega) hnm1) ?_
  rintro _ H15 ⟨rfl,hp15⟩
  have ga15:=(hp912.trans hp15).get ga9
  simp (disch:=(first|omega|(simp only [stLen]<;>omega)|(simp only [all_nv];done)|rfl)) only [zA,zB,zC,zD,zF,zG,zH,Nat.reduceEqDiff,Nat.reduceLT,Nat.reduceLeDiff,↓reduceIte,ga15]
  have hA15:=hA9.pre (hp912.trans hp15)
  have hkA:(4:Nat) ^ A.length≤4096:=Nat.le_trans (Nat.pow_le_pow_right (by omega) hA4) (by decide)
  refine FZ.mono (all_c Q4' hA15 hA rfl hkA (by omega)) ?_
  rintro vl0 H18 ⟨hp18,wds,hwd,hW⟩
  have gc18:=(hp15.trans hp18).get gc12
  have hC18:=hC12.pre (hp15.trans hp18)
  simp (disch:=(first|omega|(simp only [stLen]<;>omega)|(simp only [all_nv];done)|rfl)) only [zA,zB,zC,zD,zF,zG,zH,Nat.reduceEqDiff,Nat.reduceLT,Nat.reduceLeDiff,↓reduceIte,gc18]
  have hcnt:(2:Nat) ^ (2*A.length)≤4096:=by rw [pow4];exact hkA
  refine FZ.use (count_c (k:=2*A.length) hC18 hGd (by omega) hcnt (by omega)) ?_
  obtain⟨vs,hvs,hvl,hvr⟩:=hwd.open
  obtain⟨vl,_,_,_⟩:=hvs.allV
  have hWl:=hW.len
  have hvl':vs.length=4 ^ A.length:=by rw [hvl,hWl]
  rw [hvl'] at vl
  rw [pow4]
  simp (disch:=(first|omega|(simp only [stLen]<;>omega)|(simp only [all_nv];done)|rfl)) only [zA,zB,zC,zD,zF,zG,zH,Nat.reduceEqDiff,Nat.reduceLT,Nat.reduceLeDiff,↓reduceIte,vl]
  have hX18:=hX9.trans (hp912.trans (hp15.trans hp18))
  have gb18:=(hp912.trans (hp15.trans hp18)).get gb9
  have hB18:=hB9.pre (hp912.trans (hp15.trans hp18))
  have hBx:∀ l∈B.map (fun l=>l.map cdb),l.length=nb∧∀ z∈l,z<2:=by
    intro l hl
    obtain⟨y,hy,rfl⟩:=List.mem_map.1 hl
    refine⟨by rw [List.length_map];exact hB.len y hy,fun z hz=>?_⟩
    obtain⟨a,_,rfl⟩:=List.mem_map.1 hz
    exact (Q2.ok 0).lt a
  have eB:∀ k,(B.map fun l=>l.map cdb).getD k []=(B.getD k []).map cdb:=fun k=>by
    simp only [List.getD_eq_getElem?_getD,List.getElem?_map]
    cases B[k]?<;>rfl
  -- a word replaced
  have hrp:∀ (H1:AH) (j:Nat),j<wds.length→Pre H18 H1→FN Tryz.prog 43 [codv 2 nb vb,vs.getD j undef] H1 (fun r H'=>Pre H1 H'∧Row H' r (evs cdb (lrep b0 b1 nb g h (wds.getD j [])))):=by
    intro H1 j hj hp
    have hxl:=(hW.mem _ (getD_mem (d:=[]) hj)).1
    have hr:=(hvr j hj).pre hp
    have:=replaced_c (us:=(wds.getD j []).map cda) (B:=B.map fun l=>l.map cdb) (m:=nb) (v:=vs.getD j undef) (H:=H1) (by rw [←evr_nv];exact hB18.pre hp) (by rw [List.length_map];exact hB2) hBx (by rw [←evs_nv];exact hr) (fun u hu=>by obtain⟨a,_,rfl⟩:=List.mem_map.1 hu;exact (Q4'.ok 0).lt a) (by rw [List.length_map,hxl];omega) (by omega) (by rw [List.length_map,hxl];omega)
    rw [eB,eB,←hrep] at this
    refine FN.mono this fun r H' h=>⟨h.1,?_⟩
    rw [evs_nv];exact h.2
  have hlrl:∀ j,j<wds.length→(lrep b0 b1 nb g h (wds.getD j [])).length=na*nb:=fun j hj=>by rw [lrep_len,(hW.mem _ (getD_mem (d:=[]) hj)).1]
  have hinj:∀ i j,i<wds.length→j<wds.length→i≠j→lrep b0 b1 nb g h (wds.getD i [])≠lrep b0 b1 nb g h (wds.getD j []):=by
    intro i j hi hj hij he
    have h1:=congrArg toV he
    rw [toV_rep BB hnb0,toV_rep BB hnb0] at h1
    have h3:=vrep_inj BB hB hB2 hg hh h1
    have h4:=toV_inj (by rw [(hW.mem _ (getD_mem (d:=[]) hi)).1,(hW.mem _ (getD_mem (d:=[]) hj)).1]) h3
    rw [getD_at hi,getD_at hj] at h4
    exact hij ((List.getElem_inj hW.nd).1 h4)
  have hin:∀ a b:List β,a.map cdb=b.map cdb→a=b:=fun a b hab=>by
    refine List.ext_getElem (by have:=congrArg List.length hab;simpa using this) fun j h1 h2=>?_
    have:=congrArg (fun l=>l[j]?) hab
    simp [h1,h2] at this
    exact (Q2.ok 0).inj _ _ this
  refine loopV1.nat (4 ^ A.length) (fun i j H'=>j=nv i∧Pre H18 H') ⟨rfl,Pre.refl _⟩ ?_ ?_
  · rintro i j H20 hi ⟨rfl,hp20⟩ J hJ
    have hiw:i<wds.length:=by omega
    have hi1:i<vs.length:=by omega
    obtain⟨vl20,vi20,vd20,_⟩:=(hvs.pre hp20).allV
    rw [hvl'] at vl20
    have gb20:=hp20.get gb18
    simp (disch:=(first|omega|(simp only [stLen]<;>omega)|(simp only [all_nv];done)|rfl)) only [zA,zB,zC,zD,zF,zG,zH,Nat.reduceEqDiff,Nat.reduceLT,Nat.reduceLeDiff,↓reduceIte,vl20,hi,gb20,vi20,vd20,hi1]
    refine FZ.mono (hrp H20 i hiw hp20) ?_
    rintro v55 H21 ⟨hp21,hr55⟩
    have gc21:=(hp20.trans hp21).get gc18
    have hC21:=hC18.pre (hp20.trans hp21)
    have hsp:LSpan G (toV (lrep b0 b1 nb g h (wds.getD i []))):=by
      rw [toV_rep BB hnb0]
      exact (hspan _).2 ⟨_,(hW.mem _ (getD_mem (d:=[]) hiw)).2,rfl⟩
    simp (disch:=(first|omega|(simp only [stLen]<;>omega)|(simp only [all_nv];done)|rfl)) only [zA,zB,zC,zD,zF,zG,zH,Nat.reduceEqDiff,Nat.reduceLT,Nat.reduceLeDiff,↓reduceIte,gc21]
    refine FZ.mono (cmessage_c Q2 (by omega) hC21 hr55 hG (hlrl i hiw) hsp (by omega) hnm1) ?_
    rintro _ H22 ⟨hp22,v61,rfl,hr61⟩
    have gc22:=hp22.get gc21
    have hC22:=hC21.pre hp22
    have hml:(lmsg G (lrep b0 b1 nb g h (wds.getD i []))).length=G.length:=by simp [lmsg]
    obtain⟨l61,_,_,_⟩:=hr61.all Fl.zero
    rw [hml] at l61
    obtain⟨cs,hcs,hcsl,_⟩:=hC22.open
    obtain⟨cl,_,_,_⟩:=hcs.allV
    rw [hcsl] at cl
    simp (disch:=(first|omega|(simp only [stLen]<;>omega)|(simp only [all_nv];done)|rfl)) only [zA,zB,zC,zD,zF,zG,zH,Nat.reduceEqDiff,Nat.reduceLT,Nat.reduceLeDiff,↓reduceIte,l61,gc22,cl]
    refine FZ.mono (encode_c Q2 (by omega) hC22 hr61 hG hml (by omega) hnm1) ?_
    rintro _ H30 ⟨hp30,v79,rfl,hr79⟩
    rw [lmsg_back hG (hlrl i hiw) hsp] at hr79
    have hr55':=hr55.pre (hp22.trans hp30)
    obtain⟨l79,_,_,_⟩:=hr79.all Fl.zero
    obtain⟨l55,_,_,_⟩:=hr55'.all Fl.zero
    simp (disch:=(first|omega|(simp only [stLen]<;>omega)|(simp only [all_nv];done)|rfl)) only [zA,zB,zC,zD,zF,zG,zH,Nat.reduceEqDiff,Nat.reduceLT,Nat.reduceLeDiff,↓reduceIte,l79,l55]
    have n79:=hr79
    have n55:=hr55'
    rw [evs_nv] at n79 n55
    have hll:=hlrl i hiw
    refine FZ.mono (apart_c n79 n55 rfl (by rw [List.length_map,hll];omega)) ?_
    rintro _ H38 ⟨⟨d,rfl,hd⟩,rfl⟩
    have hd0:d=0:=hd.2 rfl
    subst hd0
    simp (disch:=(first|omega|(simp only [stLen]<;>omega)|(simp only [all_nv];done)|rfl)) only [zA,zB,zC,zD,zF,zG,zH,Nat.reduceEqDiff,Nat.reduceLT,Nat.reduceLeDiff,↓reduceIte]
    have hp38:=hp20.trans (hp21.trans (hp22.trans hp30))
    refine loopV1.nat i (fun t j H'=>j=nv t∧Pre H38 H') ⟨rfl,Pre.refl _⟩ ?_ ?_
    · rintro t j H41 ht ⟨rfl,hp41⟩ J2 hJ2
      have htw:t<wds.length:=by omega
      have ht1:t<vs.length:=by omega
      have hp1841:=hp38.trans hp41
      obtain⟨_,vi41,vd41,_⟩:=(hvs.pre hp1841).allV
      have gb41:=hp1841.get gb18
      simp (disch:=(first|omega|(simp only [stLen]<;>omega)|(simp only [all_nv];done)|rfl)) only [zA,zB,zC,zD,zF,zG,zH,Nat.reduceEqDiff,Nat.reduceLT,Nat.reduceLeDiff,↓reduceIte,ht,gb41,vi41,vd41,ht1]
      refine FZ.mono (hrp H41 t htw hp1841) ?_
      rintro v107 H42 ⟨hp42,hr107⟩
      have n107:=hr107
      have m55:=hr55'.pre (hp41.trans hp42)
      rw [evs_nv] at n107 m55
      refine FZ.mono (apart_c m55 n107 (by rw [List.length_map,List.length_map,hll,hlrl t htw]) (by rw [List.length_map,hll];omega)) ?_
      rintro _ H43 ⟨⟨d,rfl,hd⟩,rfl⟩
      have hd0:¬d=0:=fun h=>hinj i t hiw htw (by omega) (hin _ _ (hd.1 h))
      simp (disch:=(first|omega|(simp only [stLen]<;>omega)|(simp only [all_nv];done)|rfl)) only [zA,zB,zC,zD,zF,zG,zH,Nat.reduceEqDiff,Nat.reduceLT,Nat.reduceLeDiff,↓reduceIte,hd0]
      exact hJ2 _ _ ⟨rfl,hp41.trans hp42⟩
    · rintro j H41 ⟨rfl,hp41⟩ J2
      have hib:i<4611686018427387904:=by omega
      simp (disch:=(first|omega|(simp only [stLen]<;>omega)|(simp only [all_nv];done)|rfl)) only [zA,zB,zC,zD,zF,zG,zH,Nat.reduceEqDiff,Nat.reduceLT,Nat.reduceLeDiff,↓reduceIte]
      exact hJ _ _ ⟨rfl,hp38.trans hp41⟩
  · rintro j H20 ⟨rfl,hp20⟩ J
    obtain⟨vl20,_,_,_⟩:=(hvs.pre hp20).allV
    rw [hvl'] at vl20
    simp (disch:=(first|omega|(simp only [stLen]<;>omega)|(simp only [all_nv];done)|rfl)) only [zA,zB,zC,zD,zF,zG,zH,Nat.reduceEqDiff,Nat.reduceLT,Nat.reduceLeDiff,↓reduceIte,vl20]
    exact hX18.trans hp20
end Go.Sim
