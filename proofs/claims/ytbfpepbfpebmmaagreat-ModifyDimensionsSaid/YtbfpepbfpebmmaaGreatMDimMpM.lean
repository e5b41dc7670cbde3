/- Part of the proof: MpM. -/
import Derived.Test.YtbfpepbfpebmmaaGreatMDimMpL
set_option linter.all false
namespace Go.Sim
open Go Go.Proofs
theorem bq_tf:(true == false)=false:=rfl
theorem bq_ft:(false == true)=false:=rfl
set_option maxRecDepth 4000 in
set_option maxHeartbeats 8000000 in
theorem law6 (hE:ExMo) {H:AH} {x y:Value} {us ws:List Nat} {k n m k2 n2 m2 z0 z1 z2 z3 z4 z5:Nat} (hm:m<256) (hm2:m2<256) (hn2:n2<256) (hz:∀ z∈[z0,z1,z2,z3,z4,z5],z<256) (hus:∀ u∈us,u<256) (hws:∀ u∈ws,u<256) (hx:Row H x (us.map bv)) (hy:Row H y (ws.map bv)) :
    FN Tryz.prog 6 [rawv k n m x,rawv k2 n2 m2 y,.agg [bv z0,bv z1,bv z2,bv z3,bv z4,bv z5].toArray] H (fun r H'=>r=.bool true∧H'=H):=by
  refine FN.pre0 (g6_of ?_) rfl
  unfold g6
  have hxo:=hx.one
  have hyo:=hy.one
  simp (disch:=omega) only [zA,zB,zC,zD,zF,zG,zH,↓reduceIte]
  refine FZ.use (hE _) ?_
  simp (disch:=omega) only [zA,zB,zC,zD,zF,zG,zH,↓reduceIte]
  have hX0:=Pre.new H [.cells [bv k,bv n,bv m,x] 24 none false,.cells [bv k2,bv n2,bv m2,y] 24 none false,.cells [bv z0,bv z1,bv z2,bv z3,bv z4,bv z5] 25 none false]
  obtain⟨HX,hHX⟩:∃ HX,HX=H++[.cells [bv k,bv n,bv m,x] 24 none false,.cells [bv k2,bv n2,bv m2,y] 24 none false,.cells [bv z0,bv z1,bv z2,bv z3,bv z4,bv z5] 25 none false]:=⟨_,rfl⟩
  have gx0:HX[H.length]? = some (.cells [bv k,bv n,bv m,x] 24 none false):=by rw [hHX];simp
  have gx1:HX[H.length+1]? = some (.cells [bv k2,bv n2,bv m2,y] 24 none false):=by rw [hHX];simp
  have gx2:HX[H.length+2]? = some (.cells [bv z0,bv z1,bv z2,bv z3,bv z4,bv z5] 25 none false):=by rw [hHX];simp
  rw [←hHX] at hX0 ⊢
  clear hHX
  have hk6:k % 6<6:=Nat.mod_lt _ (by omega)
  have hk26:k2 % 6<6:=Nat.mod_lt _ (by omega)
  obtain⟨α,i1,i2,cd,p,e,blk,Q⟩:=Pf.fq_at (k % 6) hk6
  refine FZ.mono (made2_c Q rfl hm hus (hx.pre hX0)) ?_
  rintro _ H5 ⟨hp5,va,A,rfl,hA,hAm,hva⟩
  have hpow:=Pf.pow_most hk6
  have hAw:Pf.ordM (k % 6) ^ A.length≤256:=Nat.le_trans (Nat.pow_le_pow_right (by have:=(most_le hk6).2.2;omega) hAm) hpow
  have hq8:=(most_le hk6).2.1
  have hm8:=(most_le hk6).1
  obtain⟨na,hna⟩:∃ na,na=1+n % 10:=⟨_,rfl⟩
  obtain⟨nb,hnb⟩:∃ nb,nb=1+n2 % 10:=⟨_,rfl⟩
  have hna1:1≤na∧na≤10:=by omega
  have hnb1:1≤nb∧nb≤10:=by omega
  obtain⟨kA,hkA⟩:∃ kA,kA=A.length:=⟨_,rfl⟩
  have hkA8:kA≤8:=by omega
  have hbq:FN Tryz.prog 12 [rawv k2 n2 m2 y] (H5++[.cells [nv (Pf.ordM (k % 6)),nv (1+n % 10),va] 29 none false]) (fun r H'=>Pre (H5++[.cells [nv (Pf.ordM (k % 6)),nv (1+n % 10),va] 29 none false]) H'∧∃ vb,r=codv (Pf.ordM (k2 % 6)) nb vb∧one vb=true∧((Pf.ordM (k % 6)=Pf.ordM (k2 % 6)∧∃ B:List (List α),LRed nb B∧B.length≤8∧RowR H' vb (evr cd B))∨¬Pf.ordM (k % 6)=Pf.ordM (k2 % 6))):=by
    have hy':=hy.pre (hX0.trans (hp5.trans (Pre.new H5 [.cells [nv (Pf.ordM (k % 6)),nv (1+n % 10),va] 29 none false])))
    by_cases hj:k2 % 6=k % 6
    · refine (made_c Q hj hm2 hws hy').mono ?_
      rintro _ H' ⟨h1,w,B,rfl,hB,hB8,hw⟩
      rw [←hnb] at hB ⊢
      exact⟨h1,w,by rw [hj],hw.one,.inl ⟨by rw [hj],B,hB,hB8,hw.rowR⟩⟩
    · obtain⟨β,j1,j2,cd2,p2,e2,blk2,Q2⟩:=Pf.fq_at (k2 % 6) hk26
      refine (made_c Q2 rfl hm2 hws hy').mono ?_
      rintro _ H' ⟨h1,w,B,rfl,hB,hB8,hw⟩
      rw [←hnb]
      exact⟨h1,w,rfl,hw.one,.inr fun h=>hj (Pf.ordM_inj hk6 hk26 h).symm⟩
  rw [←hna] at hA hbq ⊢
  obtain⟨q,hq⟩:∃ q,q=Pf.ordM (k % 6):=⟨_,rfl⟩
  obtain⟨qb,hqb⟩:∃ qb,qb=Pf.ordM (k2 % 6):=⟨_,rfl⟩
  rw [←hq] at Q hAw hq8 hbq ⊢
  rw [←hqb] at hbq
  have hq16:q≤16:=by omega
  have gx6:=get_app (hp5.get gx1) [.cells [nv q,nv na,va] 29 none false]
  have sa:=stB_three (H:=H5++[.cells [nv 0,nv 0,.slice none 0 0] 29 none false]) (bl:=H5.length) (x:=nv q) (y:=nv na) (z:=va) (c0:=nv 0) (c1:=nv 0) (c2:=.slice none 0 0) (e:=29) (op:=none) rfl rfl hva.one
  rw [set_last] at sa
  simp (disch:=omega) only [zA,zB,zC,zD,zF,zG,zH,↓reduceIte,sa,gx6]
  have hp57:=Pre.new H5 [.cells [nv q,nv na,va] 29 none false]
  obtain⟨H7,hH7⟩:∃ H7,H7=H5++[.cells [nv q,nv na,va] 29 none false]:=⟨_,rfl⟩
  have ga7:H7[H5.length]? = some (.cells [nv q,nv na,va] 29 none false):=by rw [hH7];simp
  rw [←hH7] at hp57 hbq ⊢
  clear hH7 sa gx6
  have hA7:=hva.rowR.pre hp57
  have hX7:=hX0.trans (hp5.trans hp57)
  refine FZ.mono hbq ?_
  clear hbq
  rintro _ H8 ⟨hp8,vb,rfl,hvb1,hBq⟩
  have sb:=stB_three (H:=H8++[.cells [nv 0,nv 0,.slice none 0 0] 29 none false]) (bl:=H8.length) (x:=nv qb) (y:=nv nb) (z:=vb) (c0:=nv 0) (c1:=nv 0) (c2:=.slice none 0 0) (e:=29) (op:=none) rfl rfl hvb1
  rw [set_last] at sb
  have hp810:=Pre.new H8 [.cells [nv qb,nv nb,vb] 29 none false]
  have ga10:=(hp8.trans hp810).get ga7
  have hA10:=hA7.pre (hp8.trans hp810)
  have la10:=len_of hA10
  rw [←hkA] at la10
  simp (disch:=omega) only [zA,zB,zC,zD,zF,zG,zH,↓reduceIte,sb,ga10,la10]
  obtain⟨H10,hH10⟩:∃ H10,H10=H8++[.cells [nv qb,nv nb,vb] 29 none false]:=⟨_,rfl⟩
  have gb10:H10[H8.length]? = some (.cells [nv qb,nv nb,vb] 29 none false):=by rw [hH10];simp
  rw [←hH10] at hp810 ga10 hA10 ⊢
  have hX10:=hX7.trans (hp8.trans hp810)
  have hB10:(q=qb∧∃ B:List (List α),LRed nb B∧B.length≤8∧RowR H10 vb (evr cd B))∨¬q=qb:=by
    rcases hBq with ⟨h1,B,h3,h4,h5⟩|h1
    · exact .inl ⟨h1,B,h3,h4,h5.pre hp810⟩
    · exact .inr h1
  have gz10:=(hp5.trans (hp57.trans (hp8.trans hp810))).get gx2
  clear hH10 sb hBq
  -- extended
  refine FZ.mono (extended_c Q hA10 hA.len (by omega) (by omega) (by omega)) ?_
  rintro _ H11 ⟨hp11,ve,rfl,hve⟩
  obtain⟨hXr,_,_⟩:=lreduce_red ((LM.ext na).width hA.len)
  have hXd:=ext_dim hA
  have se:=stB_four (H:=H11++[.cells [nv 0,nv 0,.slice none 0 0,nv 0] 37 none false]) (bl:=H11.length) (x:=nv q) (y:=nv (na+1)) (z:=ve) (u:=nv 0) (c0:=nv 0) (c1:=nv 0) (c2:=.slice none 0 0) (c3:=nv 0) (e:=37) (op:=none) rfl rfl hve.one rfl
  rw [set_last] at se
  have hp13:=Pre.new H11 [.cells [nv q,nv (na+1),ve,nv 0] 37 none false]
  have ga13:=(hp11.trans hp13).get ga10
  have gz13:=(hp11.trans hp13).get gz10
  simp (disch:=(first|omega|(simp only [stLen]<;>omega)|(simp only [all_nv];done)|rfl)) only [zA,zB,zC,zD,zF,zG,zH,Nat.reduceEqDiff,Nat.reduceLT,Nat.reduceLeDiff,↓reduceIte,se,ga13,gz13]
  obtain⟨H13,hH13⟩:∃ H13,H13=H11++[.cells [nv q,nv (na+1),ve,nv 0] 37 none false]:=⟨_,rfl⟩
  have ge13:H13[H11.length]? = some (.cells [nv q,nv (na+1),ve,nv 0] 37 none false):=by rw [hH13];simp
  have hE13:RowR H13 ve (evr cd (lreduce (A.map (lext na)))):=by rw [hH13];exact hve.rowR.pre (Pre.new _ _)
  rw [←hH13] at hp13 ga13 gz13
  have hH14:H11++[AB.cells [nv q,nv (na+1),ve,nv 0] 37 none false,AB.cells [nv 0,nv 0,.slice none 0 0,nv 0] 37 none false]=H13++[.cells [nv 0,nv 0,.slice none 0 0,nv 0] 37 none false]:=by rw [hH13];simp
  have hl13:H13.length=H11.length+1:=by rw [hH13];simp
  rw [hH14]
  clear hH13 hH14 se
  have hp1013:=hp11.trans hp13
  have hp14:=Pre.new H13 [.cells [nv 0,nv 0,.slice none 0 0,nv 0] 37 none false]
  have gt14:(H13++[.cells [nv 0,nv 0,.slice none 0 0,nv 0] 37 none false])[H13.length]? = some (.cells [nv 0,nv 0,.slice none 0 0,nv 0] 37 none false):=by simp
  obtain⟨H14,hH14⟩:∃ H14,H14=H13++[.cells [nv 0,nv 0,.slice none 0 0,nv 0] 37 none false]:=⟨_,rfl⟩
  rw [←hH14] at hp14 gt14 ⊢
  have hl14:H14.length=H13.length+1:=by rw [hH14];simp
  clear hH14
  refine FZ.mono bytes_c ?_
  rintro vz H15 ⟨hp15,hvz⟩
  have ga15:=(hp14.trans hp15).get ga13
  simp (disch:=omega) only [zA,zB,zC,zD,zF,zG,zH,↓reduceIte,ga15]
  refine FZ.mono (shuffled_c (n:=na) (fun u hu=>hz u hu) hvz (by omega)) ?_
  rintro vg H16 ⟨hp16,hvg⟩
  have hpm:=shuf_pm [z0,z1,z2,z3,z4,z5] na
  obtain⟨g,hg⟩:∃ g,g=shuf [z0,z1,z2,z3,z4,z5] na:=⟨_,rfl⟩
  rw [←hg] at hpm hvg
  have hp1316:=hp14.trans (hp15.trans hp16)
  have ga16:=hp1316.get ga13
  have hA16:=hA10.pre (hp1013.trans hp1316)
  simp (disch:=omega) only [zA,zB,zC,zD,zF,zG,zH,Nat.reduceEqDiff,Nat.reduceLT,Nat.reduceLeDiff,↓reduceIte,ga16]
  refine FZ.mono (turned_c Q hA16 hvg hpm hA.len (by omega) (by omega) hna1.1) ?_
  rintro _ H17 ⟨hp17,vt,rfl,hvt⟩
  have hTr:=((Cd.self hA).move (g:=g)).red
  have hTd:=move_dim hpm hA
  have gt17:=(hp15.trans (hp16.trans hp17)).get gt14
  have st:=stB_four (H:=H17) (bl:=H13.length) (x:=nv q) (y:=nv na) (z:=vt) (u:=nv 0) (c0:=nv 0) (c1:=nv 0) (c2:=.slice none 0 0) (c3:=nv 0) (e:=37) (op:=none) rfl rfl hvt.one rfl
  have hl1417:=(hp15.trans (hp16.trans hp17)).len
  have hl1415:=hp15.len
  have hl1516:=hp16.len
  obtain⟨H18,hH18⟩:∃ H18,H18=H17.set H13.length (.cells [nv q,nv na,vt,nv 0] 37 none false):=⟨_,rfl⟩
  have gt18:H18[H13.length]? = some (.cells [nv q,nv na,vt,nv 0] 37 none false):=by rw [hH18];exact List.getElem?_set_self (get_lt gt17)
  have hp1318:Pre H13 H18:=by rw [hH18];exact (hp14.trans (hp15.trans (hp16.trans hp17))).set (Nat.le_refl _) _
  have hT18:RowR H18 vt (evr cd (lreduce (A.map (lmove na g)))):=by rw [hH18];exact (hvt.setLow (x:=H13.length) (by omega)).rowR
  rw [←hH18] at st
  rw [hl13] at gt17 st gt18
  have ge18:=hp1318.get ge13
  have ga18:=hp1318.get ga13
  have gb18:=(hp1013.trans hp1318).get gb10
  have gz18:=hp1318.get gz13
  have hE18:=hE13.pre hp1318
  have hp1018:=hp1013.trans hp1318
  have hX18:=hX10.trans hp1018
  have hA18:=hA10.pre hp1018
  clear hH18
  simp (disch:=omega) only [zA,zB,zC,zD,zF,zG,zH,↓reduceIte,gt17,st,ge18]
  refine FZ.mono (valid_c Q hq16 hE18 hXr (by omega) (by omega)) ?_
  rintro _ H22 ⟨rfl,hp22⟩
  have ge22:=hp22.get ge18
  have ga22:=hp22.get ga18
  have gt22:=hp22.get gt18
  have le22:=len_of (hE18.pre hp22)
  rw [hXd,←hkA] at le22
  simp (disch:=omega) only [zA,zB,zC,zD,zF,zG,zH,↓reduceIte,ge22,ga22,gt22,le22]
  refine FZ.mono (valid_c Q hq16 (hT18.pre hp22) hTr (by omega) (by omega)) ?_
  rintro _ H43 ⟨rfl,hp43⟩
  have hp1843:=hp22.trans hp43
  have gt43:=hp1843.get gt18
  have ga43:=hp1843.get ga18
  have lt43:=len_of (hT18.pre hp1843)
  rw [hTd,←hkA] at lt43
  simp (disch:=omega) only [zA,zB,zC,zD,zF,zG,zH,↓reduceIte,gt43,ga43,lt43]
  refine FZ.mono (all_c Q (hA18.pre hp1843) hA rfl (by omega) (by omega)) ?_
  rintro vl0 H57 ⟨hp57',wds,hwd,hW⟩
  have hp1857:=hp1843.trans hp57'
  have hp1057:=hp1018.trans hp1857
  have ga57:=hp1857.get ga18
  have gz57:=hp1857.get gz18
  have hA57:=hA18.pre hp1857
  obtain⟨vs,hvs,hvl,hvr⟩:=hwd.open
  have hz0:z0<256:=hz z0 (by simp)
  have hWm:∀ j,j<wds.length→(wds.getD j []).length=na∧LSpan A (toV (wds.getD j [])):=fun j hj=>hW.mem _ (getD_mem hj)
  have hw256:wds.length≤256:=by rw [hW.len];exact hAw
  have hvs256:vs.length=wds.length:=hvl
  obtain⟨vl,_,_,_⟩:=hvs.allV
  rw [hvl] at vl
  have kb:xbin .sub 0 (nv kA) (nv 1)=some (.int .i64 ((kA:Int)-((1:Nat):Int))):=xbin_subZ (by omega) (by omega)
  have eqk1:∀ (L:Nat) (b:Bool),(b=true↔L+1=kA)→xbin .eql 0 (nv L) (.int .i64 ((kA:Int)-((1:Nat):Int)))=some (.bool b):=fun L b hb=>by
    rw [show nv L=Value.int .i64 (L:Int) from rfl,xbin_eql]
    congr 2
    cases b with
    | true=>rw [decide_eq_true_iff];have:=hb.1 rfl;omega
    | false=>rw [decide_eq_false_iff_not];intro h;have:=hb.2 (by omega);cases this
  refine joinV0.via (fun H'=>Pre H57 H') ?_ ?_
  · intro J hJ
    by_cases hna2:1<na
    · have cz : xpure (.conv .i64) [bv z0]=some (nv z0):=xp_convN (by omega)
      have hnz:¬na=0:=by omega
      have ixz:xpure (.ixA 6 1) [.pointer (some ⟨H.length+2,0,none⟩),nv 0]=some (.pointer (some ⟨H.length+2,0,none⟩)):=by rw [xp_ixAN (by omega)]
      obtain⟨i,hi⟩:∃ i,i=z0 % na:=⟨_,rfl⟩
      have hin:i<na:=by rw [hi];exact Nat.mod_lt _ (by omega)
      simp (disch:=omega) only [zA,zB,zC,zD,zF,zG,zH,↓reduceIte,ga57,hna2,ixz,gz57,cz,hnz]
      rw [←hi]
      refine loopV3.nat wds.length (fun t u s j H'=>j=nv t∧H'=H57∧∃ ub sb:Bool,u=.bool ub∧s=.bool sb∧(ub=true↔∃ r,r<t∧lwt (wds.getD r [])=1∧(wds.getD r []).getD i Fl.zero≠Fl.zero)∧(sb=true↔∃ r,r<t∧(wds.getD r []).getD i Fl.zero≠Fl.zero)) ⟨rfl,rfl,false,false,rfl,rfl,by simp,by simp⟩ ?_ ?_
      · rintro t u s j H58 ht ⟨rfl,rfl,ub,sb,rfl,rfl,hu,hs⟩ J2 hJ2
        obtain⟨_,vi,vd,_⟩:=hvs.allV
        have ht1:t<vs.length:=by omega
        obtain⟨hxl,hxs⟩:=hWm t ht
        have hrow:=hvr t ht
        obtain⟨_,ri,rd,_⟩:=hrow.all Fl.zero
        have hix:i<(wds.getD t []).length:=by omega
        have hwt:=weight_c (Q.ok 0) hrow (by omega)
        have hsucc:∀ P:Nat→Prop,(∃ r,r<t+1∧P r)↔(∃ r,r<t∧P r)∨P t:=fun P=>by
          constructor
          · rintro⟨r,h1,h2⟩
            by_cases hrt:r=t
            · exact .inr (hrt ▸ h2)
            · exact .inl ⟨r,by omega,h2⟩
          · rintro (⟨r,h1,h2⟩|h)
            · exact⟨r,by omega,h2⟩
            · exact⟨t,by omega,h⟩
        by_cases h0:(wds.getD t []).getD i Fl.zero=Fl.zero
        · have h0':cd ((wds.getD t []).getD i Fl.zero)=0:=((Q.ok 0).eq0 _).2 h0
          have eu:(∃ r,r<t+1∧lwt (wds.getD r [])=1∧(wds.getD r []).getD i Fl.zero≠Fl.zero)↔ub=true:=by
            rw [hsucc (fun r=>lwt (wds.getD r [])=1∧(wds.getD r []).getD i Fl.zero≠Fl.zero),hu]
            exact⟨fun h=>h.resolve_right fun h=>h.2 h0,.inl⟩
          have es:(∃ r,r<t+1∧(wds.getD r []).getD i Fl.zero≠Fl.zero)↔sb=true:=by
            rw [hsucc (fun r=>(wds.getD r []).getD i Fl.zero≠Fl.zero),hs]
            exact⟨fun h=>h.resolve_right fun h=>h h0,.inl⟩
          cases sb<;>cases ub
          · simp (disch:=omega) only [zA,zB,zC,zD,zF,zG,zH,↓reduceIte,vl,ht,vi,vd,ht1,ri,rd,hix,h0']
            refine FZ.use hwt ?_
            by_cases hw1:lwt (wds.getD t [])=1
            · simp (disch:=omega) only [zA,zB,zC,zD,zF,zG,zH,↓reduceIte,hw1,vi,vd,ht1,ri,rd,hix,h0']
              exact hJ2 _ _ _ _ ⟨rfl,rfl,false,false,rfl,rfl,eu.symm,es.symm⟩
            · simp (disch:=omega) only [zA,zB,zC,zD,zF,zG,zH,↓reduceIte,hw1]
              exact hJ2 _ _ _ _ ⟨rfl,rfl,false,false,rfl,rfl,eu.symm,es.symm⟩
          · simp (disch:=omega) only [zA,zB,zC,zD,zF,zG,zH,↓reduceIte,vl,ht,vi,vd,ht1,ri,rd,hix,h0']
            exact hJ2 _ _ _ _ ⟨rfl,rfl,true,false,rfl,rfl,eu.symm,es.symm⟩
          · simp (disch:=omega) only [zA,zB,zC,zD,zF,zG,zH,↓reduceIte,vl,ht,vi,vd,ht1,ri,rd,hix,h0']
            refine FZ.use hwt ?_
            by_cases hw1:lwt (wds.getD t [])=1
            · simp (disch:=omega) only [zA,zB,zC,zD,zF,zG,zH,↓reduceIte,hw1,vi,vd,ht1,ri,rd,hix,h0']
              exact hJ2 _ _ _ _ ⟨rfl,rfl,false,true,rfl,rfl,eu.symm,es.symm⟩
            · simp (disch:=omega) only [zA,zB,zC,zD,zF,zG,zH,↓reduceIte,hw1]
              exact hJ2 _ _ _ _ ⟨rfl,rfl,false,true,rfl,rfl,eu.symm,es.symm⟩
          · simp (disch:=omega) only [zA,zB,zC,zD,zF,zG,zH,↓reduceIte,vl,ht,vi,vd,ht1,ri,rd,hix,h0']
            exact hJ2 _ _ _ _ ⟨rfl,rfl,true,true,rfl,rfl,eu.symm,es.symm⟩
        · have h0':¬cd ((wds.getD t []).getD i Fl.zero)=0:=fun h=>h0 (((Q.ok 0).eq0 _).1 h)
          have es:(∃ r,r<t+1∧(wds.getD r []).getD i Fl.zero≠Fl.zero)↔true=true:=⟨fun _=>rfl,fun _=>⟨t,by omega,h0⟩⟩
          by_cases hw1:lwt (wds.getD t [])=1
          · have eu:(∃ r,r<t+1∧lwt (wds.getD r [])=1∧(wds.getD r []).getD i Fl.zero≠Fl.zero)↔true=true:=⟨fun _=>rfl,fun _=>⟨t,by omega,hw1,h0⟩⟩
            cases sb<;>cases ub
            · simp (disch:=omega) only [zA,zB,zC,zD,zF,zG,zH,↓reduceIte,vl,ht,vi,vd,ht1,ri,rd,hix,h0']
              refine FZ.use hwt ?_
              simp (disch:=omega) only [zA,zB,zC,zD,zF,zG,zH,↓reduceIte,hw1,vi,vd,ht1,ri,rd,hix,h0']
              exact hJ2 _ _ _ _ ⟨rfl,rfl,true,true,rfl,rfl,eu.symm,es.symm⟩
            · simp (disch:=omega) only [zA,zB,zC,zD,zF,zG,zH,↓reduceIte,vl,ht,vi,vd,ht1,ri,rd,hix,h0']
              exact hJ2 _ _ _ _ ⟨rfl,rfl,true,true,rfl,rfl,eu.symm,es.symm⟩
            · simp (disch:=omega) only [zA,zB,zC,zD,zF,zG,zH,↓reduceIte,vl,ht,vi,vd,ht1,ri,rd,hix,h0']
              refine FZ.use hwt ?_
              simp (disch:=omega) only [zA,zB,zC,zD,zF,zG,zH,↓reduceIte,hw1,vi,vd,ht1,ri,rd,hix,h0']
              exact hJ2 _ _ _ _ ⟨rfl,rfl,true,true,rfl,rfl,eu.symm,es.symm⟩
            · simp (disch:=omega) only [zA,zB,zC,zD,zF,zG,zH,↓reduceIte,vl,ht,vi,vd,ht1,ri,rd,hix,h0']
              exact hJ2 _ _ _ _ ⟨rfl,rfl,true,true,rfl,rfl,eu.symm,es.symm⟩
          · have eu:(∃ r,r<t+1∧lwt (wds.getD r [])=1∧(wds.getD r []).getD i Fl.zero≠Fl.zero)↔ub=true:=by
              rw [hsucc (fun r=>lwt (wds.getD r [])=1∧(wds.getD r []).getD i Fl.zero≠Fl.zero),hu]
              exact⟨fun h=>h.resolve_right fun h=>hw1 h.1,.inl⟩
            cases sb<;>cases ub
            · simp (disch:=omega) only [zA,zB,zC,zD,zF,zG,zH,↓reduceIte,vl,ht,vi,vd,ht1,ri,rd,hix,h0']
              refine FZ.use hwt ?_
              simp (disch:=omega) only [zA,zB,zC,zD,zF,zG,zH,↓reduceIte,hw1]
              exact hJ2 _ _ _ _ ⟨rfl,rfl,false,true,rfl,rfl,eu.symm,es.symm⟩
            · simp (disch:=omega) only [zA,zB,zC,zD,zF,zG,zH,↓reduceIte,vl,ht,vi,vd,ht1,ri,rd,hix,h0']
              exact hJ2 _ _ _ _ ⟨rfl,rfl,true,true,rfl,rfl,eu.symm,es.symm⟩
            · simp (disch:=omega) only [zA,zB,zC,zD,zF,zG,zH,↓reduceIte,vl,ht,vi,vd,ht1,ri,rd,hix,h0']
              refine FZ.use hwt ?_
              simp (disch:=omega) only [zA,zB,zC,zD,zF,zG,zH,↓reduceIte,hw1]
              exact hJ2 _ _ _ _ ⟨rfl,rfl,false,true,rfl,rfl,eu.symm,es.symm⟩
            · simp (disch:=omega) only [zA,zB,zC,zD,zF,zG,zH,↓reduceIte,vl,ht,vi,vd,ht1,ri,rd,hix,h0']
              exact hJ2 _ _ _ _ ⟨rfl,rfl,true,true,rfl,rfl,eu.symm,es.symm⟩
      · rintro u s j H57 ⟨rfl,rfl,ub,sb,rfl,rfl,hu,hs⟩ J2
        simp (disch:=omega) only [zA,zB,zC,zD,zF,zG,zH,↓reduceIte,vl,ga57]
        refine FZ.mono (punctured_c Q hA57 hA.len (by omega) (by omega) (by omega) hin) ?_
        rintro _ H84 ⟨hp84,vp,rfl,hvp⟩
        have s86:=stB_four (H:=H84++[.cells [nv 0,nv 0,.slice none 0 0,nv 0] 37 none false]) (bl:=H84.length) (x:=nv q) (y:=nv (na-1)) (z:=vp) (u:=nv 0) (c0:=nv 0) (c1:=nv 0) (c2:=.slice none 0 0) (c3:=nv 0) (e:=37) (op:=none) rfl rfl hvp.one rfl
        rw [set_last] at s86
        have hp86:=Pre.new H84 [.cells [nv q,nv (na-1),vp,nv 0] 37 none false]
        have ga86:=(hp84.trans hp86).get ga57
        simp (disch:=omega) only [zA,zB,zC,zD,zF,zG,zH,↓reduceIte,s86,ga86]
        have gp86:(H84++[.cells [nv q,nv (na-1),vp,nv 0] 37 none false])[H84.length]? = some (.cells [nv q,nv (na-1),vp,nv 0] 37 none false):=by simp
        have hvp86:=hvp.rowR.pre hp86
        obtain⟨H86,hH86⟩:∃ H86,H86=H84++[.cells [nv q,nv (na-1),vp,nv 0] 37 none false]:=⟨_,rfl⟩
        rw [←hH86] at hp86 ga86 gp86 hvp86 ⊢
        clear hH86 s86
        refine FZ.mono (shortened_c Q (hA57.pre (hp84.trans hp86)) hA.len (by omega) (by omega) (by omega) hin) ?_
        rintro _ H87 ⟨hp87,vs2,rfl,hvs2⟩
        have s89:=stB_four (H:=H87++[.cells [nv 0,nv 0,.slice none 0 0,nv 0] 37 none false]) (bl:=H87.length) (x:=nv q) (y:=nv (na-1)) (z:=vs2) (u:=nv 0) (c0:=nv 0) (c1:=nv 0) (c2:=.slice none 0 0) (c3:=nv 0) (e:=37) (op:=none) rfl rfl hvs2.one rfl
        rw [set_last] at s89
        have hp89:=Pre.new H87 [.cells [nv q,nv (na-1),vs2,nv 0] 37 none false]
        have gp89:=(hp87.trans hp89).get gp86
        simp (disch:=omega) only [zA,zB,zC,zD,zF,zG,zH,↓reduceIte,s89,gp89]
        have gs89:(H87++[.cells [nv q,nv (na-1),vs2,nv 0] 37 none false])[H87.length]? = some (.cells [nv q,nv (na-1),vs2,nv 0] 37 none false):=by simp
        have hvs89:=hvs2.rowR.pre hp89
        have hvp89:=hvp86.pre (hp87.trans hp89)
        have ga89:=(hp87.trans hp89).get ga86
        obtain⟨H89,hH89⟩:∃ H89,H89=H87++[.cells [nv q,nv (na-1),vs2,nv 0] 37 none false]:=⟨_,rfl⟩
        rw [←hH89] at hp89 gp89 gs89 hvs89 hvp89 ga89 ⊢
        clear hH89 s89
        have hPr:=((Cd.self hA).punct hin).red
        have hSr:=((Cd.self hA).short hin).red
        have hl1:∃ L,L=(lreduce (A.map (pick (na-1) (skipP i)))).length:=⟨_,rfl⟩
        obtain⟨Lp,hLp⟩:=hl1
        have hl2:∃ L,L=(lreduce ((lkept (fun v=>v i) A).map (pick (na-1) (skipP i)))).length:=⟨_,rfl⟩
        obtain⟨Ls,hLs⟩:=hl2
        have hLpk:(ub=true→Lp+1=kA)∧(ub=false→Lp=kA):=by
          constructor
          · intro h
            obtain⟨r,hr,hr1,hr2⟩:=hu.1 h
            obtain⟨h1,h3⟩:=hWm r hr
            rw [hLp,hkA]
            exact punct_dim1 hA hin h3 ((lwt_one h1 hin hr2).1 hr1) hr2
          · intro h
            rw [hLp,hkA]
            refine punct_dim hA hin fun w hw hw0=>Classical.byContradiction fun hne=>?_
            obtain⟨xw,hxw,rfl⟩:=hW.all w hw
            obtain⟨r,hr,rfl⟩:=List.mem_iff_getElem.1 hxw
            have h1:=hWm r hr
            rw [getD_at hr] at h1
            have:ub=true:=hu.2 ⟨r,hr,by rw [getD_at hr];exact (lwt_one h1.1 hin hne).2 hw0,by rw [getD_at hr];exact hne⟩
            rw [h] at this;cases this
        have hLsk:(sb=true→Ls+1=kA)∧(sb=false→Ls=kA):=by
          have hsd:=short_dim hA hin
          constructor
          · intro h
            obtain⟨r,hr,hr2⟩:=hs.1 h
            rw [hLs,hsd,hkA]
            exact lev_dim (Lf.at_ i) hA (hWm r hr).2 hr2
          · intro h
            rw [hLs,hsd,hkA]
            refine lev_same (Lf.at_ i) hA fun w hw=>Classical.byContradiction fun hne=>?_
            obtain⟨xw,hxw,rfl⟩:=hW.all w hw
            obtain⟨r,hr,rfl⟩:=List.mem_iff_getElem.1 hxw
            have:sb=true:=hs.2 ⟨r,hr,by rw [getD_at hr];exact hne⟩
            rw [h] at this;cases this
        refine FZ.mono (valid_c Q hq16 hvp89 hPr (by omega) (by omega)) ?_
        rintro _ H95 ⟨rfl,hp95⟩
        have gp95:=hp95.get gp89
        have gs95:=hp95.get gs89
        simp (disch:=omega) only [zA,zB,zC,zD,zF,zG,zH,↓reduceIte,gs95]
        refine FZ.mono (valid_c Q hq16 (hvs89.pre hp95) hSr (by omega) (by omega)) ?_
        rintro _ H100 ⟨rfl,hp100⟩
        have gp100:=hp100.get gp95
        have gs100:=hp100.get gs95
        have ga100:=(hp95.trans hp100).get ga89
        have lp100:=len_of (hvp89.pre (hp95.trans hp100))
        have ls100:=len_of (hvs89.pre (hp95.trans hp100))
        rw [←hLp] at lp100
        rw [←hLs] at ls100
        have q1:=eqk1 Lp ub
        have q2:=eqk1 Ls sb
        have q3:=eqk1 kA false (by constructor<;>intro h<;>first|omega|cases h)
        have h1na:1≤na:=hna1.1
        have fin:Pre H57 H100:=(hp84.trans hp86).trans ((hp87.trans hp89).trans (hp95.trans hp100))
        cases ub<;>cases sb
        · have e1:=hLpk.2 rfl
          have e2:=hLsk.2 rfl
          have q1:=q1 (by constructor<;>intro h<;>first|omega|cases h)
          have q2:=q2 (by constructor<;>intro h<;>first|omega|cases h)
          simp (disch:=omega) only [zA,zB,zC,zD,zF,zG,zH,↓reduceIte,gp100,gs100,ga100,lp100,ls100,h1na,kb,q1,q2,q3,nb_tt,nb_ff,eb_tf,eb_ft,e1,e2,Bool.not_true,Bool.not_false,beq_self_eq_true,bq_tf,bq_ft]
          first
          | exact hJ _ fin
          | (simp (disch:=omega) only [zA,zB,zC,zD,zF,zG,zH,↓reduceIte,gp100,gs100,ga100,lp100,ls100,h1na,kb,q1,q2,q3,nb_tt,nb_ff,eb_tf,eb_ft,e1,e2,Bool.not_true,Bool.not_false,beq_self_eq_true,bq_tf,bq_ft]
             first
             | exact hJ _ fin
             | (simp (disch:=omega) only [zA,zB,zC,zD,zF,zG,zH,↓reduceIte,gp100,gs100,ga100,lp100,ls100,h1na,kb,q1,q2,q3,nb_tt,nb_ff,eb_tf,eb_ft,e1,e2,Bool.not_true,Bool.not_false,beq_self_eq_true,bq_tf,bq_ft]
                exact hJ _ fin))
        · have e1:=hLpk.2 rfl
          have e2:=hLsk.1 rfl
          have e2':¬Ls=kA:=by omega
          have q1:=q1 (by constructor<;>intro h<;>first|omega|cases h)
          have q2:=q2 (by constructor<;>intro h<;>first|omega|rfl)
          simp (disch:=omega) only [zA,zB,zC,zD,zF,zG,zH,↓reduceIte,gp100,gs100,ga100,lp100,ls100,h1na,kb,q1,q2,q3,nb_tt,nb_ff,eb_tf,eb_ft,e1,e2',Bool.not_true,Bool.not_false,beq_self_eq_true,bq_tf,bq_ft]
          first
          | exact hJ _ fin
          | (simp (disch:=omega) only [zA,zB,zC,zD,zF,zG,zH,↓reduceIte,gp100,gs100,ga100,lp100,ls100,h1na,kb,q1,q2,q3,nb_tt,nb_ff,eb_tf,eb_ft,e1,e2',Bool.not_true,Bool.not_false,beq_self_eq_true,bq_tf,bq_ft]
             first
             | exact hJ _ fin
             | (simp (disch:=omega) only [zA,zB,zC,zD,zF,zG,zH,↓reduceIte,gp100,gs100,ga100,lp100,ls100,h1na,kb,q1,q2,q3,nb_tt,nb_ff,eb_tf,eb_ft,e1,e2',Bool.not_true,Bool.not_false,beq_self_eq_true,bq_tf,bq_ft]
                exact hJ _ fin))
        · have e1:=hLpk.1 rfl
          have e1':¬Lp=kA:=by omega
          have e2:=hLsk.2 rfl
          have q1:=q1 (by constructor<;>intro h<;>first|omega|rfl)
          have q2:=q2 (by constructor<;>intro h<;>first|omega|cases h)
          simp (disch:=omega) only [zA,zB,zC,zD,zF,zG,zH,↓reduceIte,gp100,gs100,ga100,lp100,ls100,h1na,kb,q1,q2,q3,nb_tt,nb_ff,eb_tf,eb_ft,e1',e2,Bool.not_true,Bool.not_false,beq_self_eq_true,bq_tf,bq_ft]
          first
          | exact hJ _ fin
          | (simp (disch:=omega) only [zA,zB,zC,zD,zF,zG,zH,↓reduceIte,gp100,gs100,ga100,lp100,ls100,h1na,kb,q1,q2,q3,nb_tt,nb_ff,eb_tf,eb_ft,e1',e2,Bool.not_true,Bool.not_false,beq_self_eq_true,bq_tf,bq_ft]
             first
             | exact hJ _ fin
             | (simp (disch:=omega) only [zA,zB,zC,zD,zF,zG,zH,↓reduceIte,gp100,gs100,ga100,lp100,ls100,h1na,kb,q1,q2,q3,nb_tt,nb_ff,eb_tf,eb_ft,e1',e2,Bool.not_true,Bool.not_false,beq_self_eq_true,bq_tf,bq_ft]
                exact hJ _ fin))
        · have e1:=hLpk.1 rfl
          have e1':¬Lp=kA:=by omega
          have e2:=hLsk.1 rfl
          have e2':¬Ls=kA:=by omega
          have q1:=q1 (by constructor<;>intro h<;>first|omega|rfl)
          have q2:=q2 (by constructor<;>intro h<;>first|omega|rfl)
          simp (disch:=omega) only [zA,zB,zC,zD,zF,zG,zH,↓reduceIte,gp100,gs100,ga100,lp100,ls100,h1na,kb,q1,q2,nb_tt,nb_ff,eb_tf,eb_ft,e1',e2',Bool.not_true,Bool.not_false,beq_self_eq_true,bq_tf,bq_ft]
          first
          | exact hJ _ fin
          | (simp (disch:=omega) only [zA,zB,zC,zD,zF,zG,zH,↓reduceIte,gp100,gs100,ga100,lp100,ls100,h1na,kb,q1,q2,nb_tt,nb_ff,eb_tf,eb_ft,e1',e2',Bool.not_true,Bool.not_false,beq_self_eq_true,bq_tf,bq_ft]
             first
             | exact hJ _ fin
             | (simp (disch:=omega) only [zA,zB,zC,zD,zF,zG,zH,↓reduceIte,gp100,gs100,ga100,lp100,ls100,h1na,kb,q1,q2,nb_tt,nb_ff,eb_tf,eb_ft,e1',e2',Bool.not_true,Bool.not_false,beq_self_eq_true,bq_tf,bq_ft]
                exact hJ _ fin))
    · simp (disch:=omega) only [zA,zB,zC,zD,zF,zG,zH,↓reduceIte,ga57,hna2]
      exact hJ _ (Pre.refl _)
  intro H151 hp151
  have ga151:=hp151.get ga57
  refine joinV0.via (fun H'=>Pre H57 H') ?_ ?_
  · intro J hJ
    by_cases hq2:q=2
    · have F2:FOK α cd p e 0 e 2 blk:=hq2 ▸ Q.ok 0
      have hd:decide (q=2)=true:=decide_eq_true hq2
      have hvs151:=hvs.pre hp151
      obtain⟨vl1,vi1,vd1,_⟩:=hvs151.allV
      rw [hvl] at vl1
      simp (disch:=omega) only [zA,zB,zC,zD,zF,zG,zH,↓reduceIte,ga151,hd]
      refine loopV2.nat wds.length (fun t o j H'=>j=nv t∧H'=H151∧∃ ob:Bool,o=.bool ob∧(ob=true↔∃ r,r<t∧lwt (wds.getD r []) % 2=1)) ⟨rfl,rfl,false,rfl,by simp⟩ ?_ ?_
      · rintro t o j H152 ht ⟨rfl,rfl,ob,rfl,ho⟩ J2 hJ2
        have ht1:t<vs.length:=by omega
        obtain⟨hxl,hxs⟩:=hWm t ht
        have hwt:=weight_c (Q.ok 0) ((hvr t ht).pre hp151) (by omega)
        have hz2:¬(2:Nat)=0:=by decide
        have hsucc:(∃ r,r<t+1∧lwt (wds.getD r []) % 2=1)↔(∃ r,r<t∧lwt (wds.getD r []) % 2=1)∨lwt (wds.getD t []) % 2=1:=by
          constructor
          · rintro⟨r,h1,h2⟩
            by_cases hrt:r=t
            · exact .inr (hrt ▸ h2)
            · exact .inl ⟨r,by omega,h2⟩
          · rintro (⟨r,h1,h2⟩|h)
            · exact⟨r,by omega,h2⟩
            · exact⟨t,by omega,h⟩
        cases ob
        · simp (disch:=omega) only [zA,zB,zC,zD,zF,zG,zH,↓reduceIte,vl1,ht,vi1,vd1,ht1]
          refine FZ.use hwt ?_
          by_cases hodd:lwt (wds.getD t []) % 2=1
          · simp (disch:=omega) only [zA,zB,zC,zD,zF,zG,zH,↓reduceIte,hz2,hodd]
            exact hJ2 _ _ _ ⟨rfl,rfl,true,rfl,by rw [hsucc];exact⟨fun _=>.inr hodd,fun _=>rfl⟩⟩
          · simp (disch:=omega) only [zA,zB,zC,zD,zF,zG,zH,↓reduceIte,hz2,hodd]
            exact hJ2 _ _ _ ⟨rfl,rfl,false,rfl,by rw [hsucc,←ho];exact⟨.inl,fun h=>h.resolve_right hodd⟩⟩
        · simp (disch:=omega) only [zA,zB,zC,zD,zF,zG,zH,↓reduceIte,vl1,ht]
          exact hJ2 _ _ _ ⟨rfl,rfl,true,rfl,by rw [hsucc,←ho];exact⟨.inl,fun _=>rfl⟩⟩
      · rintro o j H151 ⟨rfl,rfl,ob,rfl,ho⟩ J2
        simp (disch:=omega) only [zA,zB,zC,zD,zF,zG,zH,↓reduceIte,vl1,ga151]
        refine FZ.mono (evened_q hq2 Q (hA57.pre hp151) hA.len (by omega) (by omega) hna1.1) ?_
        rintro _ H161 ⟨hp161,v9,rfl,hv9⟩
        have hEr:=lev_red (f:=vsum na) hA.len
        have s163:=stB_four (H:=H161++[.cells [nv 0,nv 0,.slice none 0 0,nv 0] 37 none false]) (bl:=H161.length) (x:=nv q) (y:=nv na) (z:=v9) (u:=nv 0) (c0:=nv 0) (c1:=nv 0) (c2:=.slice none 0 0) (c3:=nv 0) (e:=37) (op:=none) rfl rfl hv9.one rfl
        rw [set_last] at s163
        have hp163:=Pre.new H161 [.cells [nv q,nv na,v9,nv 0] 37 none false]
        have ge163:(H161++[.cells [nv q,nv na,v9,nv 0] 37 none false])[H161.length]? = some (.cells [nv q,nv na,v9,nv 0] 37 none false):=by simp
        have hv163:=hv9.rowR.pre hp163
        obtain⟨Le,hLe⟩:∃ L,L=(lev (vsum na) A).length:=⟨_,rfl⟩
        have hLek:(ob=true→Le+1=kA)∧(ob=false→Le=kA):=by
          constructor
          · intro h
            obtain⟨r,hr,hr2⟩:=ho.1 h
            obtain⟨h1,h3⟩:=hWm r hr
            rw [hLe,hkA]
            exact lev_dim (Lf.vsum na) hA h3 ((wt_sum F2 na _ h1).1 hr2)
          · intro h
            rw [hLe,hkA]
            refine lev_same (Lf.vsum na) hA fun w hw=>Classical.byContradiction fun hne=>?_
            obtain⟨xw,hxw,rfl⟩:=hW.all w hw
            obtain⟨r,hr,rfl⟩:=List.mem_iff_getElem.1 hxw
            have h1:=hWm r hr
            rw [getD_at hr] at h1
            have:ob=true:=ho.2 ⟨r,hr,by rw [getD_at hr];exact (wt_sum F2 na _ h1.1).2 hne⟩
            rw [h] at this;cases this
        simp (disch:=omega) only [zA,zB,zC,zD,zF,zG,zH,↓reduceIte,s163]
        obtain⟨H163,hH163⟩:∃ H163,H163=H161++[.cells [nv q,nv na,v9,nv 0] 37 none false]:=⟨_,rfl⟩
        rw [←hH163] at hp163 ge163 hv163 ⊢
        clear hH163 s163
        refine FZ.mono (valid_c Q hq16 hv163 hEr (by omega) (by omega)) ?_
        rintro _ H166 ⟨rfl,hp166⟩
        have ge166:=hp166.get ge163
        have le166:=len_of (hv163.pre hp166)
        rw [←hLe] at le166
        have q1:=eqk1 Le ob
        have q3:=eqk1 kA false (by constructor<;>intro h<;>first|omega|cases h)
        have fin:Pre H57 H166:=hp151.trans (hp161.trans (hp163.trans hp166))
        cases ob
        · have e1:=hLek.2 rfl
          have q1:=q1 (by constructor<;>intro h<;>first|omega|cases h)
          simp (disch:=omega) only [zA,zB,zC,zD,zF,zG,zH,↓reduceIte,ge166,le166,kb,q1,q3,nb_tt,nb_ff,eb_tf,eb_ft,e1,Bool.not_true,Bool.not_false,beq_self_eq_true,bq_tf,bq_ft]
          exact hJ _ fin
        · have e1:=hLek.1 rfl
          have e1':¬Le=kA:=by omega
          have q1:=q1 (by constructor<;>intro h<;>first|omega|rfl)
          simp (disch:=omega) only [zA,zB,zC,zD,zF,zG,zH,↓reduceIte,ge166,le166,kb,q1,q3,nb_tt,nb_ff,eb_tf,eb_ft,e1',Bool.not_true,Bool.not_false,beq_self_eq_true,bq_tf,bq_ft]
          exact hJ _ fin
    · have hd:decide (q=2)=false:=decide_eq_false hq2
      simp (disch:=omega) only [zA,zB,zC,zD,zF,zG,zH,↓reduceIte,ga151,hd]
      exact hJ _ hp151
  intro H186 hp186
  have ga186:=hp186.get ga57
  have gb186:=(hp1057.trans hp186).get gb10
  have hA186:=hA57.pre hp186
  have hX186:=hX10.trans (hp1057.trans hp186)
  have gxx:∀ {H':AH},Pre HX H'→H'[H.length]? = some (.cells [bv k,bv n,bv m,x] 24 none false)∧H'[H.length+1]? = some (.cells [bv k2,bv n2,bv m2,y] 24 none false):=fun hp=>⟨hp.get gx0,hp.get gx1⟩
  have hXX:Pre HX H186:=(hp5.trans (hp57.trans (hp8.trans hp810))).trans (hp1057.trans hp186)
  have hva1:=hA186.one'
  rcases Classical.em (q=qb) with hqq|hqq
  case' inl =>
    obtain⟨B,hB,hB8,hBr0⟩:∃ B:List (List α),LRed nb B∧B.length≤8∧RowR H10 vb (evr cd B):=by
      rcases hB10 with ⟨_,B,h1,h2,h3⟩|h
      · exact⟨B,h1,h2,h3⟩
      · exact absurd hqq h
    subst hqq
    have hB186:=hBr0.pre (hp1057.trans hp186)
    simp (disch:=omega) only [zA,zB,zC,zD,zF,zG,zH,↓reduceIte,ga186,gb186]
    refine FZ.mono (summed_c Q hA186 hB186 hA.len hB.len (by omega) (by omega) hna1.1 hnb1.1 (by omega)) ?_
    rintro _ H187 ⟨hp187,v187,rfl,hv187⟩
    have hSm:=(Cd.sum (Cd.self hA) (Cd.self hB)).red
    have hSd:=sum_dim hA hB
    have s189:=stB_four (H:=H187++[.cells [nv 0,nv 0,.slice none 0 0,nv 0] 37 none false]) (bl:=H187.length) (x:=nv q) (y:=nv (na+nb)) (z:=v187) (u:=nv 0) (c0:=nv 0) (c1:=nv 0) (c2:=.slice none 0 0) (c3:=nv 0) (e:=37) (op:=none) rfl rfl hv187.one rfl
    rw [set_last] at s189
    have hp189:=Pre.new H187 [.cells [nv q,nv (na+nb),v187,nv 0] 37 none false]
    have ga189:=(hp187.trans hp189).get ga186
    have gb189:=(hp187.trans hp189).get gb186
    simp (disch:=omega) only [zA,zB,zC,zD,zF,zG,zH,↓reduceIte,s189,ga189,gb189]
    have gs189:(H187++[.cells [nv q,nv (na+nb),v187,nv 0] 37 none false])[H187.length]? = some (.cells [nv q,nv (na+nb),v187,nv 0] 37 none false):=by simp
    have hS189:=hv187.rowR.pre hp189
    obtain⟨H189,hH189⟩:∃ H189,H189=H187++[.cells [nv q,nv (na+nb),v187,nv 0] 37 none false]:=⟨_,rfl⟩
    rw [←hH189] at hp189 ga189 gb189 gs189 hS189 ⊢
    clear hH189 s189
    have hp86:=hp187.trans hp189
    by_cases hab:na=nb
    case' pos =>
      subst hab
      refine FZ.mono (doubled_c Q (hA186.pre hp86) (hB186.pre hp86) hA.len hB.len (by omega) (by omega) hna1.1 (by omega)) ?_
      rintro _ H190 ⟨hp190,v190,rfl,hv190⟩
      have hDr:=(Cd.dbl (Cd.self hA) (Cd.self hB)).red
      have hDd:=dbl_dim hA hB
      have s192:=stB_four (H:=H190++[.cells [nv 0,nv 0,.slice none 0 0,nv 0] 37 none false]) (bl:=H190.length) (x:=nv q) (y:=nv (na+na)) (z:=v190) (u:=nv 0) (c0:=nv 0) (c1:=nv 0) (c2:=.slice none 0 0) (c3:=nv 0) (e:=37) (op:=none) rfl rfl hv190.one rfl
      rw [set_last] at s192
      have hp192:=Pre.new H190 [.cells [nv q,nv (na+na),v190,nv 0] 37 none false]
      have ga192:=(hp190.trans hp192).get ga189
      have gb192:=(hp190.trans hp192).get gb189
      have gs192:=(hp190.trans hp192).get gs189
      have hS192:=hS189.pre (hp190.trans hp192)
      simp (disch:=omega) only [zA,zB,zC,zD,zF,zG,zH,↓reduceIte,s192,ga192,gb192,gs192,nb_tt,nb_ff,eb_tf,eb_ft,Bool.not_true,Bool.not_false,beq_self_eq_true,bq_tf,bq_ft]
      have gd192:(H190++[.cells [nv q,nv (na+na),v190,nv 0] 37 none false])[H190.length]? = some (.cells [nv q,nv (na+na),v190,nv 0] 37 none false):=by simp
      have hD192:=hv190.rowR.pre hp192
      obtain⟨H192,hH192⟩:∃ H192,H192=H190++[.cells [nv q,nv (na+na),v190,nv 0] 37 none false]:=⟨_,rfl⟩
      rw [←hH192] at hp192 ga192 gb192 gs192 gd192 hS192 hD192 ⊢
      clear hH192 s192
      refine FZ.mono (valid_c Q hq16 hS192 hSm (by omega) (by omega)) ?_
      rintro _ H199 ⟨rfl,hp199⟩
      have ga199:=hp199.get ga192
      have gb199:=hp199.get gb192
      have gs199:=hp199.get gs192
      have gd199:=hp199.get gd192
      have ls199:=len_of (hS192.pre hp199)
      rw [hSd,←hkA] at ls199
      have lb199:=len_of (hB186.pre (hp86.trans (hp190.trans (hp192.trans hp199))))
      simp (disch:=omega) only [zA,zB,zC,zD,zF,zG,zH,↓reduceIte,ga199,gb199,gs199,gd199,ls199,lb199,nb_tt,nb_ff,eb_tf,eb_ft,Bool.not_true,Bool.not_false,beq_self_eq_true,bq_tf,bq_ft]
      refine FZ.mono (valid_c Q hq16 (hD192.pre hp199) hDr (by omega) (by omega)) ?_
      rintro _ H248 ⟨rfl,hp248⟩
      have ga248:=hp248.get ga199
      have gb248:=hp248.get gb199
      have gd248:=hp248.get gd199
      have ld248:=len_of (hD192.pre (hp199.trans hp248))
      rw [hDd,←hkA] at ld248
      have lb248:=len_of (hB186.pre (hp86.trans (hp190.trans (hp192.trans (hp199.trans hp248)))))
      have h2n:na+na=2*na:=by omega
      rw [h2n] at gd248
      have hp272:Pre H186 H248:=hp86.trans (hp190.trans (hp192.trans (hp199.trans hp248)))
      obtain⟨gX0,gX1⟩:=gxx (hXX.trans hp272)
      simp (disch:=omega) only [zA,zB,zC,zD,zF,zG,zH,↓reduceIte,ga248,gb248,gd248,ld248,lb248,gX0,gX1,Bool.not_true,Bool.not_false,beq_self_eq_true,bq_tf,bq_ft]
      obtain⟨H272,hH272⟩:∃ H272,H272=H248:=⟨_,rfl⟩
      rw [←hH272] at hp272 gX0 gX1 ⊢
      clear hH272
    case' neg =>
      refine FZ.mono (doubled_e (q:=q) (q2:=q) (n:=na) (m:=nb) hva1 hvb1 (fun h=>hab h.2)) ?_
      rintro _ H190 ⟨rfl,hp190⟩
      have s192:=stB_four (H:=H190++[.cells [nv 0,nv 0,.slice none 0 0,nv 0] 37 none false]) (bl:=H190.length) (x:=nv 0) (y:=nv 0) (z:=.slice none 0 0) (u:=nv 1) (c0:=nv 0) (c1:=nv 0) (c2:=.slice none 0 0) (c3:=nv 0) (e:=37) (op:=none) rfl rfl rfl rfl
      rw [set_last] at s192
      have hp192:=Pre.new H190 [.cells [nv 0,nv 0,.slice none 0 0,nv 1] 37 none false]
      have ga192:=(hp190.trans hp192).get ga189
      have gb192:=(hp190.trans hp192).get gb189
      have gs192:=(hp190.trans hp192).get gs189
      have hS192:=hS189.pre (hp190.trans hp192)
      simp (disch:=omega) only [zA,zB,zC,zD,zF,zG,zH,↓reduceIte,s192,ga192,gb192,gs192,nb_tt,nb_ff,eb_tf,eb_ft,Bool.not_true,Bool.not_false,beq_self_eq_true,bq_tf,bq_ft]
      have gd192:(H190++[.cells [nv 0,nv 0,.slice none 0 0,nv 1] 37 none false])[H190.length]? = some (.cells [nv 0,nv 0,.slice none 0 0,nv 1] 37 none false):=by simp
      obtain⟨H192,hH192⟩:∃ H192,H192=H190++[.cells [nv 0,nv 0,.slice none 0 0,nv 1] 37 none false]:=⟨_,rfl⟩
      rw [←hH192] at hp192 ga192 gb192 gs192 gd192 hS192 ⊢
      clear hH192 s192
      refine FZ.mono (valid_c Q hq16 hS192 hSm (by omega) (by omega)) ?_
      rintro _ H199 ⟨rfl,hp199⟩
      have ga199:=hp199.get ga192
      have gb199:=hp199.get gb192
      have gs199:=hp199.get gs192
      have gd199:=hp199.get gd192
      have ls199:=len_of (hS192.pre hp199)
      rw [hSd,←hkA] at ls199
      have lb199:=len_of (hB186.pre (hp86.trans (hp190.trans (hp192.trans hp199))))
      have hp272:Pre H186 H199:=hp86.trans (hp190.trans (hp192.trans hp199))
      obtain⟨gX0,gX1⟩:=gxx (hXX.trans hp272)
      simp (disch:=omega) only [zA,zB,zC,zD,zF,zG,zH,Nat.reduceEqDiff,Nat.reduceLT,Nat.reduceLeDiff,↓reduceIte,ga199,gb199,gs199,gd199,ls199,lb199,hab,gX0,gX1,nb_tt,nb_ff,eb_tf,eb_ft,Bool.not_true,Bool.not_false,beq_self_eq_true,bq_tf,bq_ft]
      obtain⟨H272,hH272⟩:∃ H272,H272=H199:=⟨_,rfl⟩
      rw [←hH272] at hp272 gX0 gX1 ⊢
      clear hH272
  case' inr =>
    simp (disch:=(first|omega|(simp only [stLen]<;>omega)|(simp only [all_nv];done)|rfl)) only [zA,zB,zC,zD,zF,zG,zH,Nat.reduceEqDiff,Nat.reduceLT,Nat.reduceLeDiff,↓reduceIte,ga186,gb186]
    refine FZ.mono (summed_e (q:=q) (q2:=qb) (n:=na) (m:=nb) hva1 hvb1 hqq) ?_
    rintro _ H187 ⟨rfl,hp187⟩
    have s189:=stB_four (H:=H187++[.cells [nv 0,nv 0,.slice none 0 0,nv 0] 37 none false]) (bl:=H187.length) (x:=nv 0) (y:=nv 0) (z:=.slice none 0 0) (u:=nv 1) (c0:=nv 0) (c1:=nv 0) (c2:=.slice none 0 0) (c3:=nv 0) (e:=37) (op:=none) rfl rfl rfl rfl
    rw [set_last] at s189
    have hp189:=Pre.new H187 [.cells [nv 0,nv 0,.slice none 0 0,nv 1] 37 none false]
    have ga189:=(hp187.trans hp189).get ga186
    have gb189:=(hp187.trans hp189).get gb186
    simp (disch:=(first|omega|(simp only [stLen]<;>omega)|(simp only [all_nv];done)|rfl)) only [zA,zB,zC,zD,zF,zG,zH,Nat.reduceEqDiff,Nat.reduceLT,Nat.reduceLeDiff,↓reduceIte,s189,ga189,gb189]
    have gs189:(H187++[.cells [nv 0,nv 0,.slice none 0 0,nv 1] 37 none false])[H187.length]? = some (.cells [nv 0,nv 0,.slice none 0 0,nv 1] 37 none false):=by simp
    obtain⟨H189,hH189⟩:∃ H189,H189=H187++[.cells [nv 0,nv 0,.slice none 0 0,nv 1] 37 none false]:=⟨_,rfl⟩
    rw [←hH189] at hp189 ga189 gb189 gs189 ⊢
    clear hH189 s189
    have hp86:=hp187.trans hp189
    refine FZ.mono (doubled_e (q:=q) (q2:=qb) (n:=na) (m:=nb) hva1 hvb1 (fun h=>hqq h.1)) ?_
    rintro _ H190 ⟨rfl,hp190⟩
    have s192:=stB_four (H:=H190++[.cells [nv 0,nv 0,.slice none 0 0,nv 0] 37 none false]) (bl:=H190.length) (x:=nv 0) (y:=nv 0) (z:=.slice none 0 0) (u:=nv 1) (c0:=nv 0) (c1:=nv 0) (c2:=.slice none 0 0) (c3:=nv 0) (e:=37) (op:=none) rfl rfl rfl rfl
    rw [set_last] at s192
    have hp192:=Pre.new H190 [.cells [nv 0,nv 0,.slice none 0 0,nv 1] 37 none false]
    have ga192:=(hp190.trans hp192).get ga189
    have gb192:=(hp190.trans hp192).get gb189
    have gs192:=(hp190.trans hp192).get gs189
    have hp272:Pre H186 (H190++[.cells [nv 0,nv 0,.slice none 0 0,nv 1] 37 none false]):=hp86.trans (hp190.trans hp192)
    obtain⟨gX0,gX1⟩:=gxx (hXX.trans hp272)
    simp (disch:=(first|omega|(simp only [stLen]<;>omega)|(simp only [all_nv];done)|rfl)) only [zA,zB,zC,zD,zF,zG,zH,Nat.reduceEqDiff,Nat.reduceLT,Nat.reduceLeDiff,↓reduceIte,s192,ga192,gb192,gs192,hqq,gX0,gX1,nb_tt,nb_ff,eb_tf,eb_ft,Bool.not_true,Bool.not_false,beq_self_eq_true,bq_tf,bq_ft]
    obtain⟨H272,hH272⟩:∃ H272,H272=H190++[.cells [nv 0,nv 0,.slice none 0 0,nv 1] 37 none false]:=⟨_,rfl⟩
    rw [←hH272] at hp272 gX0 gX1 ⊢
    clear hH272
  all_goals
    have hX272:=hX0.trans (hXX.trans hp272)
    obtain⟨α',β,i1',i2',i3',i4',cda,cdb,p',e',p2,e2,blk',blk2,b0,b1,two,lift,Q4,Q2,BB,h2,hb0,hb1,hcc⟩:=Pf.fq42
    refine FZ.mono (outer_c Q4 hm hus (hx.pre hX272)) ?_
    rintro _ H273 ⟨hp273,vc,C,rfl,hC,hC4,hvc⟩
    have Q4':FQ α' cda p' e' 4 blk':=Q4
    obtain⟨nc,hnc⟩:∃ nc,nc=1+n % 4:=⟨_,rfl⟩
    have hnc1:1≤nc∧nc≤4:=by omega
    rw [←hnc] at hC ⊢
    have sc:=stB_three (H:=H273++[.cells [nv 0,nv 0,.slice none 0 0] 29 none false]) (bl:=H273.length) (x:=nv 4) (y:=nv nc) (z:=vc) (c0:=nv 0) (c1:=nv 0) (c2:=.slice none 0 0) (e:=29) (op:=none) rfl rfl hvc.one
    rw [set_last] at sc
    have hp275:=Pre.new H273 [.cells [nv 4,nv nc,vc] 29 none false]
    have gy275:=(hp273.trans hp275).get gX1
    have gc275:(H273++[.cells [nv 4,nv nc,vc] 29 none false])[H273.length]? = some (.cells [nv 4,nv nc,vc] 29 none false):=by simp
    have hC275:=hvc.rowR.pre hp275
    simp (disch:=omega) only [zA,zB,zC,zD,zF,zG,zH,↓reduceIte,sc,gy275,gc275]
    have e275:(H273++[AB.cells [nv 4,nv nc,vc] 29 none false]).length=H273.length+1:=by simp
    rw [show H273++[AB.cells [nv 4,nv nc,vc] 29 none false,AB.cells [nv 0,nv 0,.slice none 0 0,nv 0] 37 none false]=(H273++[AB.cells [nv 4,nv nc,vc] 29 none false])++[AB.cells [nv 0,nv 0,.slice none 0 0,nv 0] 37 none false] from by simp]
    obtain⟨H275,hH275⟩:∃ H275,H275=H273++[.cells [nv 4,nv nc,vc] 29 none false]:=⟨_,rfl⟩
    rw [←hH275] at hp275 gy275 gc275 hC275 e275 ⊢
    clear hH275 sc
    have hX276:=hX272.trans ((hp273.trans hp275).trans (Pre.new H275 [.cells [nv 0,nv 0,.slice none 0 0,nv 0] 37 none false]))
    refine FZ.mono (inner_c Q2 hm2 hn2 hws (hy.pre hX276)) ?_
    rintro _ H277 ⟨hp277,vd,D,rfl,hD,hD2,hvd⟩
    have hp57:=(Pre.new H275 [.cells [nv 0,nv 0,.slice none 0 0,nv 0] 37 none false]).trans hp277
    have gc277:=hp57.get gc275
    have gk277:H277[H275.length]? = some (.cells [nv 0,nv 0,.slice none 0 0,nv 0] 37 none false):=hp277.get (by simp)
    have hC277:=hC275.pre hp57
    have hD277:=hvd.rowR
    obtain⟨nd,hnd⟩:∃ nd,nd=2+n2 % 4:=⟨_,rfl⟩
    have hnd1:2≤nd∧nd≤5:=by omega
    rw [←hnd] at hD ⊢
    simp (disch:=omega) only [zA,zB,zC,zD,zF,zG,zH,↓reduceIte,gc277]
    have hnm:nc*nd≤20:=Nat.mul_le_mul hnc1.2 hnd1.2
    have hnm1:1≤nc*nd:=Nat.mul_pos hnc1.1 (by omega)
    have hnd0:0<nd:=by omega
    obtain⟨g',hg'⟩:∃ g',g'=D.getD 0 []:=⟨_,rfl⟩
    obtain⟨h',hh'⟩:∃ h',h'=D.getD 1 []:=⟨_,rfl⟩
    have hrep:∀ x:List α',(lrep b0 b1 nd g' h' x).map cdb=repL nd ((D.getD 0 []).map cdb) ((D.getD 1 []).map cdb) (x.map cda):=fun x=>by
      rw [←hg',←hh'];exact lrep_cd hb0 hb1 (Q2.ok 0).zero hcc nd g' h' x
    refine FZ.mono (concat26_c Q4' Q2 h2 (lrep b0 b1 nd g' h') hrep hC277 hD277 hC.len hD.len hD2 (by omega) hnc1.1 hnd0 (by omega)) ?_
    rintro _ H278 ⟨hp278,ve',rfl,hve'⟩
    have hcl:∀ y∈(lcat two C).map (lrep b0 b1 nd g' h'),y.length=nc*nd:=by
      intro y hy
      obtain⟨x,hx,rfl⟩:=List.mem_map.1 hy
      rw [lrep_len]
      rcases List.mem_append.1 hx with h|h
      · rw [hC.len x h]
      · obtain⟨z,hz,rfl⟩:=List.mem_map.1 h;rw [List.length_map,hC.len z hz]
    obtain⟨hG,_,_⟩:=lreduce_red hcl
    have hGd:=lcat_dim BB hD hD2 hg' hh' hnd0 hC
    have gk278:=hp278.get gk277
    have hl275:H275.length<H277.length:=by have:=get_lt gk277;omega
    have st:=stB_four (H:=H278) (bl:=H275.length) (x:=nv 2) (y:=nv (nc*nd)) (z:=ve') (u:=nv 0) (c0:=nv 0) (c1:=nv 0) (c2:=.slice none 0 0) (c3:=nv 0) (e:=37) (op:=none) rfl rfl hve'.one rfl
    obtain⟨H279,hH279⟩:∃ H279,H279=H278.set H275.length (.cells [nv 2,nv (nc*nd),ve',nv 0] 37 none false):=⟨_,rfl⟩
    have gk279:H279[H275.length]? = some (.cells [nv 2,nv (nc*nd),ve',nv 0] 37 none false):=by rw [hH279];exact List.getElem?_set_self (get_lt gk278)
    have hp279:Pre H275 H279:=by rw [hH279];exact (hp57.trans hp278).set (by omega) _
    have hE279:RowR H279 ve' (evr cdb (lreduce ((lcat two C).map (lrep b0 b1 nd g' h')))):=by rw [hH279];exact (hve'.setLow (x:=H275.length) (by omega)).rowR
    rw [←hH279] at st
    clear hH279
    have gc279:=hp279.get gc275
    simp (disch:=omega) only [zA,zB,zC,zD,zF,zG,zH,↓reduceIte,gk278,st,gk279,gc279,nb_tt,nb_ff,eb_tf,eb_ft,Bool.not_true,Bool.not_false,beq_self_eq_true,bq_tf,bq_ft]
    have q22:(2:Nat)≤16:=by omega
    refine FZ.mono (valid_c Q2 q22 hE279 hG (by omega) (by omega)) ?_
    rintro _ H286 ⟨rfl,hp286⟩
    have gk286:=hp286.get gk279
    have gc286:=hp286.get gc279
    have le286:=len_of (hE279.pre hp286)
    rw [hGd] at le286
    have lc286:=len_of (hC275.pre (hp279.trans hp286))
    have h2c:2*C.length<2 ^ 62:=by omega
    simp (disch:=omega) only [zA,zB,zC,zD,zF,zG,zH,↓reduceIte,gk286,gc286,le286,lc286,nb_tt,nb_ff,eb_tf,eb_ft,Bool.not_true,Bool.not_false,beq_self_eq_true,bq_tf,bq_ft]
    exact hX272.trans ((hp273.trans hp275).trans (hp279.trans hp286))
end Go.Sim
