/- Part of the proof: MtL. -/
import Derived.Test.YtbfpepbfpebmmaaGreatMMatMsPToMtK
set_option linter.all false
namespace Go.Sim
open Go Go.Proofs
section
variable {α:Type} [Fl α] [DecidableEq α] {cd:α→Nat} {p e b c q:Nat} {blk:AB}
theorem isC.at {H0:AH} {n:Nat} {A:List (List α)} {w:Value} (h:RowR H0 w (evr cd A)):∀ H,Pre H0 H→isC cd q n A H (codv q n w):=fun H hp=>⟨w,rfl,h.pre hp⟩
end
theorem isI_sub {z:Nat} (hz:z<256):∃ v,xbin .sub 0 (nv (z % 12)) (nv 1)=some v∧isI v∧∃ i:Int,v=iv i:=by
  rcases (show z % 12=0∨1≤z % 12 by omega) with h|h
  · exact⟨.int .i64 (-1),by rw [h];rfl,.inl rfl,-1,rfl⟩
  · exact⟨nv (z % 12-1),qkp h (by omega),.inr ⟨_,rfl,by omega⟩,_,rfl⟩
set_option maxRecDepth 4000 in
set_option maxHeartbeats 8000000 in
theorem law3 (hE:ExMo) {H:AH} {x y:Value} {us ws:List Nat} {k n m k2 n2 m2 z0 z1 z2 z3 z4 z5:Nat} (hm:m<256) (hm2:m2<256) (hn2:n2<256) (hz:∀ z∈[z0,z1,z2,z3,z4,z5],z<256) (hus:∀ u∈us,u<256) (hws:∀ u∈ws,u<256) (hx:Row H x (us.map bv)) (hy:Row H y (ws.map bv)) :
    FN Tryz.prog 3 [rawv k n m x,rawv k2 n2 m2 y,.agg [bv z0,bv z1,bv z2,bv z3,bv z4,bv z5].toArray] H (fun r H'=>r=.bool true∧H'=H):=by
  refine FN.pre0 (g3_of ?_) rfl
  unfold g3
  have hxo:=hx.one
  have hyo:=hy.one
  simp (disch:=omega) only [zA,zB,zC,zD,zF,zG,zH,↓reduceIte]
  refine FZ.use (hE _) ?_
  simp (disch:=omega) only [zA,zB,zC,zD,zF,zG,zH,↓reduceIte]
  have hX0:=Pre.new H [.cells [bv k,bv n,bv m,x] 24 none false,.cells [bv k2,bv n2,bv m2,y] 24 none false,.cells [bv z0,bv z1,bv z2,bv z3,bv z4,bv z5] 25 none false]
  obtain⟨HX,hHX⟩:∃ HX,HX=H++[.cells [bv k,bv n,bv m,x] 24 none false,.cells [bv k2,bv n2,bv m2,y] 24 none false,.cells [bv z0,bv z1,bv z2,bv z3,bv z4,bv z5] 25 none false]:=⟨_,rfl⟩
  have gx0:HX[H.length]? = some (.cells [bv k,bv n,bv m,x] 24 none false):=by rw [hHX];simp
  have gx1:HX[H.length+1]? = some (.cells [bv k2,bv n2,bv m2,y] 24 none false):=by rw [hHX];simp
  have gx2:HX[H.length+2]? = some (.cells [bv z0,bv z1,bv z2,bv z3,bv z4,bv z5] 25 none false):=by rw [hHX];simp
  rw [←hHX] at hX0 ⊢
  clear hHX
  have hk6:k % 6<6:=Nat.mod_lt _ (by omega)
  have hk26:k2 % 6<6:=Nat.mod_lt _ (by omega)
  obtain⟨α,i1,i2,cd,p,e,blk,Q,hcat⟩:=Pf.fq_cat (k % 6) hk6
  refine FZ.mono (made_c Q rfl hm hus (hx.pre hX0)) ?_
  rintro _ H5 ⟨hp5,va,A,rfl,hA,hA8,hva⟩
  obtain⟨na,hna⟩:∃ na,na=1+n % 10:=⟨_,rfl⟩
  obtain⟨nb,hnb⟩:∃ nb,nb=1+n2 % 10:=⟨_,rfl⟩
  have hna1:1≤na∧na≤10:=by omega
  have hnb1:1≤nb∧nb≤10:=by omega
  rw [←hna] at hA ⊢
  have gx6:=qdr (hp5.get gx1) [.cells [nv (Pf.ordM (k % 6)),nv na,va] 29 none false]
  have sa:=qbs (H:=H5++[.cells [nv 0,nv 0,.slice none 0 0] 29 none false]) (bl:=H5.length) (x:=nv (Pf.ordM (k % 6))) (y:=nv na) (z:=va) (c0:=nv 0) (c1:=nv 0) (c2:=.slice none 0 0) (e:=29) (op:=none) rfl rfl hva.one
  rw [qb2] at sa
  simp (disch:=omega) only [zA,zB,zC,zD,zF,zG,zH,↓reduceIte,sa,gx6]
  have hp57:=Pre.new H5 [.cells [nv (Pf.ordM (k % 6)),nv na,va] 29 none false]
  obtain⟨H7,hH7⟩:∃ H7,H7=H5++[.cells [nv (Pf.ordM (k % 6)),nv na,va] 29 none false]:=⟨_,rfl⟩
  have ga7:H7[H5.length]? = some (.cells [nv (Pf.ordM (k % 6)),nv na,va] 29 none false):=by rw [hH7];simp
  rw [←hH7] at hp57 ⊢
  clear hH7 sa gx6
  have hA7:=hva.rowR.pre hp57
  have hX7:=hX0.trans (hp5.trans hp57)
  refine FZ.mono (madeB_c hk6 Q hcat hA hA8 hna1.1 hna1.2 hA7 hm2 hws (hy.pre hX7)) ?_
  rintro _ H8 ⟨hp8,vb,rfl,hvb1,Tsum,Tdbl,Tcat⟩
  rw [←hnb] at Tsum Tdbl Tcat ⊢
  obtain⟨q,hq⟩:∃ q,q=Pf.ordM (k % 6):=⟨_,rfl⟩
  obtain⟨qb,hqb⟩:∃ qb,qb=Pf.ordM (k2 % 6):=⟨_,rfl⟩
  have ga8:=hp8.get ga7
  rw [←hq] at Q ga8 Tsum Tdbl Tcat
  rw [←hqb] at Tsum Tdbl Tcat ⊢
  clear hcat
  have sb:=qbs (H:=H8++[.cells [nv 0,nv 0,.slice none 0 0] 29 none false]) (bl:=H8.length) (x:=nv qb) (y:=nv nb) (z:=vb) (c0:=nv 0) (c1:=nv 0) (c2:=.slice none 0 0) (e:=29) (op:=none) rfl rfl hvb1
  rw [qb2] at sb
  have hp810:=Pre.new H8 [.cells [nv qb,nv nb,vb] 29 none false]
  have hX10:=hX7.trans (hp8.trans hp810)
  have hXX10:Pre HX (H8++[.cells [nv qb,nv nb,vb] 29 none false]):=hp5.trans (hp57.trans (hp8.trans hp810))
  have ga10:=hp810.get ga8
  have gb10:(H8++[.cells [nv qb,nv nb,vb] 29 none false])[H8.length]? = some (.cells [nv qb,nv nb,vb] 29 none false):=by simp
  have gz10:=hXX10.get gx2
  have hA10:=hA7.pre (hp8.trans hp810)
  have TS:=Tsum.pre hp810
  have TD:=Tdbl.pre hp810
  have TC:=Tcat.pre hp810
  clear Tsum Tdbl Tcat
  have zb:∀ z∈[z0,z1,z2,z3,z4,z5],qbc (.conv .i64) [bv z]=some (nv z):=fun z h=>qcx (by have:=hz z h;omega)
  have ci0:=zb z0 (by simp)
  have ci2:=zb z2 (by simp)
  have ci3:=zb z3 (by simp)
  have ci4:=zb z4 (by simp)
  have hzb:=hz z0 (by simp)
  have hz3b:=hz z3 (by simp)
  obtain⟨vi,ei,hI,_⟩:=isI_sub hzb
  simp (disch:=(first|omega|(simp only [qbj]<;>omega)|(simp only [qbg];done)|rfl)) only [zA,zB,zC,zD,zF,zG,zH,Nat.reduceEqDiff,Nat.reduceLT,Nat.reduceLeDiff,↓reduceIte,sb,gz10,ci0,ei,ga10]
  obtain⟨H10,hH10⟩:∃ H10,H10=H8++[.cells [nv qb,nv nb,vb] 29 none false]:=⟨_,rfl⟩
  rw [←hH10] at hp810 hX10 hXX10 ga10 gb10 gz10 hA10 TS TD TC ⊢
  clear hH10 sb
  refine FZ.mono bytes_c ?_
  rintro v29 H11 ⟨hp11,hv29⟩
  have ga11:=hp11.get ga10
  simp (disch:=omega) only [zA,zB,zC,zD,zF,zG,zH,↓reduceIte,ga11]
  refine FZ.mono (shuffledO_c hz hv29 (by omega)) ?_
  rintro v30 H12 ⟨hp12,hg12⟩
  have ga12:=hp12.get ga11
  have gz12:=(hp11.trans hp12).get gz10
  have r4:xbin .rem 0 (bv z1) (.int .u8 4)=some (bv (z1 % 4)):=rem8 (m:=4) (by decide)
  have r16:xbin .rem 0 (bv z1) (.int .u8 16)=some (bv (z1 % 16)):=rem8 (m:=16) (by decide)
  have e4:xbin .eql 0 (bv (z1 % 4)) (.int .u8 0)=some (.bool (decide (z1 % 4=0))):=qhp (b:=0)
  have e16:xbin .eql 0 (bv (z1 % 16)) (.int .u8 1)=some (.bool (decide (z1 % 16=1))):=qhp (b:=1)
  have hl12:(shuf [z0,z1,z2,z3,z4,z5] na).length=na:=Pm.len (shuf_pm _ na)
  refine joinV0.via (fun H'=>Pre H11 H'∧∃ gs:List Int,gs.length=na∧Own H11 H' v30 (gs.map iv) 3) ?_ ?_
  · intro J hJ
    by_cases h4:z1 % 4=0
    · rw [decide_eq_true h4] at e4
      obtain⟨vj,ej,_,ij,rfl⟩:=isI_sub hz3b
      obtain⟨b,hb1,rfl,op,hop,hb2⟩:=hg12
      have hnz:¬na=0:=by omega
      have hlt:z2 % na<((shuf [z0,z1,z2,z3,z4,z5] na).map nv).length:=by rw [List.length_map,hl12];exact Nat.mod_lt _ (by omega)
      have st:=qfc (H:=H12) (bl:=b) (op:=op) (e:=3) (c:=(shuf [z0,z1,z2,z3,z4,z5] na).map nv) (o:=z2 % na) (v:=iv ij) rfl rfl hlt
      simp (disch:=omega) only [zA,zB,zC,zD,zF,zG,zH,↓reduceIte,gz12,r4,e4,ci2,ci3,ga12,hnz,ej,hlt,hb2,st]
      refine hJ _ ⟨hp12.set hb1 _,((shuf [z0,z1,z2,z3,z4,z5] na).map fun j:Nat=>(j:Int)).set (z2 % na) ij,by rw [List.length_set,List.length_map,hl12],b,hb1,?_,op,hop,?_⟩
      · rw [List.map_set,List.map_map,List.length_set];rfl
      · rw [List.map_set,List.map_map];exact List.getElem?_set_self (qbx hb2)
    · rw [decide_eq_false h4] at e4
      simp (disch:=omega) only [zA,zB,zC,zD,zF,zG,zH,↓reduceIte,gz12,r4,e4]
      refine hJ _ ⟨hp12,(shuf [z0,z1,z2,z3,z4,z5] na).map fun j:Nat=>(j:Int),by rw [List.length_map,hl12],?_⟩
      rw [List.map_map];exact hg12
  rintro H14 ⟨hp14,gs,hgl,hg14⟩
  have ga14:=hp14.get ga11
  have gz14:=(hp11.trans hp14).get gz10
  refine joinV1.via (fun v H'=>Pre H11 H'∧∃ gs:List Int,gs.length≤1000∧Row H' v (gs.map iv)) ?_ ?_
  · intro J hJ
    by_cases h16:z1 % 16=1
    · rw [decide_eq_true h16] at e16
      obtain⟨v',H',ea,ho,_,_,hp'⟩:=hg14.app (u:=nv na) (by_:=8) (e2:=3) rfl (by rw [List.length_map];omega) (by rw [List.length_map];omega)
      have hf:qbr [nv 0] [(0,1)] [nv na]=some [nv na]:=rfl
      simp (disch:=omega) only [zA,zB,zC,zD,zF,zG,zH,↓reduceIte,gz14,r16,e16,ga14,hf,ea]
      exact hJ _ _ ⟨hp' hp14,gs++[(na:Int)],by rw [List.length_append];simp;omega,by rw [List.map_append];exact ho.row⟩
    · rw [decide_eq_false h16] at e16
      simp (disch:=omega) only [zA,zB,zC,zD,zF,zG,zH,↓reduceIte,gz14,r16,e16]
      exact hJ _ _ ⟨hp14,gs,by omega,hg14.row⟩
  clear hgl hg14 hp14 ga14 gz14 gs H14 hg12 hp12 ga12 gz12 H12
  rintro vg H17 ⟨hp17,gs,hgl,hg17⟩
  have ga17:=hp17.get ga11
  have hp1017:=hp11.trans hp17
  have gb17:=hp1017.get gb10
  have hX17:Pre H H17:=hX10.trans hp1017
  have gx17:=(hXX10.trans hp1017).get gx0
  have gy17:=(hXX10.trans hp1017).get gx1
  have gz17:=hp1017.get gz10
  have hA17:=hA10.pre hp1017
  have TS:=TS.pre hp1017
  have TD:=TD.pre hp1017
  have TC:=TC.pre hp1017
  have hb17:Pre H17 H17:=Pre.refl _
  simp (disch:=omega) only [zA,zB,zC,zD,zF,zG,zH,↓reduceIte,ga17]
  obtain⟨S18,T18⟩:=(two_ext Q hA.len (by omega) (by omega) (by omega)).at_ (H0:=H17) (l:=[codv q na va]) fun _ hp=>⟨_,rfl,isC.at hA17 _ hp⟩
  refine FZ.mono (T18 _ hb17).1 ?_
  rintro r18 H18 ⟨hp18,hr18⟩
  have ga18:=hp18.get ga17
  have gb18:=hp18.get gb17
  have gx18:=hp18.get gx17
  have gy18:=hp18.get gy17
  have gz18:=hp18.get gz17
  simp (disch:=omega) only [zA,zB,zC,zD,zF,zG,zH,↓reduceIte,ga18]
  refine FZ.mono (T18 _ (hb17.trans hp18)).2 ?_
  rintro r19 H19 ⟨hp19,hr19⟩
  simp (disch:=omega) only [zA,zB,zC,zD,zF,zG,zH,↓reduceIte]
  refine FZ.mono (qfw (hr18.pre hp19) hr19) ?_
  rintro _ H20 ⟨rfl,hp20⟩
  have hq20:=hp18.trans (hp19.trans hp20)
  have hb20:=hb17.trans hq20
  have ga20:=hq20.get ga17
  have gb20:=hq20.get gb17
  have gx20:=hq20.get gx17
  have gy20:=hq20.get gy17
  have gz20:=hq20.get gz17
  clear T18 hr18 hr19 hq20 hp18 hp19 hp20
  simp (disch:=omega) only [zA,zB,zC,zD,zF,zG,zH,↓reduceIte,ga20]
  obtain⟨S21,T21⟩:=(two_pun Q hA.len (by omega) (by omega) hI).at_ (H0:=H17) (l:=[codv q na va,vi]) fun _ hp=>⟨_,rfl,isC.at hA17 _ hp⟩
  refine FZ.mono (T21 _ hb20).1 ?_
  rintro r21 H21 ⟨hp21,hr21⟩
  have ga21:=hp21.get ga20
  have gb21:=hp21.get gb20
  have gx21:=hp21.get gx20
  have gy21:=hp21.get gy20
  have gz21:=hp21.get gz20
  simp (disch:=omega) only [zA,zB,zC,zD,zF,zG,zH,Nat.reduceEqDiff,Nat.reduceLT,Nat.reduceLeDiff,↓reduceIte,ga21]
  refine FZ.mono (T21 _ (hb20.trans hp21)).2 ?_
  rintro r22 H22 ⟨hp22,hr22⟩
  simp (disch:=omega) only [zA,zB,zC,zD,zF,zG,zH,↓reduceIte]
  refine FZ.mono (qfw (hr21.pre hp22) hr22) ?_
  rintro _ H23 ⟨rfl,hp23⟩
  have hq23:=hp21.trans (hp22.trans hp23)
  have hb23:=hb20.trans hq23
  have ga23:=hq23.get ga20
  have gb23:=hq23.get gb20
  have gx23:=hq23.get gx20
  have gy23:=hq23.get gy20
  have gz23:=hq23.get gz20
  clear T21 hr21 hr22 hq23 hp21 hp22 hp23
  simp (disch:=omega) only [zA,zB,zC,zD,zF,zG,zH,↓reduceIte,ga23]
  obtain⟨S24,T24⟩:=(two_sho Q hA (by omega) (by omega) hI).at_ (H0:=H17) (l:=[codv q na va,vi]) fun _ hp=>⟨_,rfl,isC.at hA17 _ hp⟩
  refine FZ.mono (T24 _ hb23).1 ?_
  rintro r24 H24 ⟨hp24,hr24⟩
  have ga24:=hp24.get ga23
  have gb24:=hp24.get gb23
  have gx24:=hp24.get gx23
  have gy24:=hp24.get gy23
  have gz24:=hp24.get gz23
  simp (disch:=omega) only [zA,zB,zC,zD,zF,zG,zH,Nat.reduceEqDiff,Nat.reduceLT,Nat.reduceLeDiff,↓reduceIte,ga24]
  refine FZ.mono (T24 _ (hb23.trans hp24)).2 ?_
  rintro r25 H25 ⟨hp25,hr25⟩
  simp (disch:=omega) only [zA,zB,zC,zD,zF,zG,zH,↓reduceIte]
  refine FZ.mono (qfw (hr24.pre hp25) hr25) ?_
  rintro _ H26 ⟨rfl,hp26⟩
  have hq26:=hp24.trans (hp25.trans hp26)
  have hb26:=hb23.trans hq26
  have ga26:=hq26.get ga23
  have gb26:=hq26.get gb23
  have gx26:=hq26.get gx23
  have gy26:=hq26.get gy23
  have gz26:=hq26.get gz23
  clear T24 hr24 hr25 hq26 hp24 hp25 hp26
  simp (disch:=omega) only [zA,zB,zC,zD,zF,zG,zH,↓reduceIte,ga26,gb26]
  obtain⟨S27,T27⟩:=TS
  refine FZ.mono (T27 _ hb26).1 ?_
  rintro r27 H27 ⟨hp27,hr27⟩
  have ga27:=hp27.get ga26
  have gb27:=hp27.get gb26
  have gx27:=hp27.get gx26
  have gy27:=hp27.get gy26
  have gz27:=hp27.get gz26
  simp (disch:=omega) only [zA,zB,zC,zD,zF,zG,zH,Nat.reduceEqDiff,Nat.reduceLT,Nat.reduceLeDiff,↓reduceIte,ga27,gb27]
  refine FZ.mono (T27 _ (hb26.trans hp27)).2 ?_
  rintro r28 H28 ⟨hp28,hr28⟩
  simp (disch:=omega) only [zA,zB,zC,zD,zF,zG,zH,↓reduceIte]
  refine FZ.mono (qfw (hr27.pre hp28) hr28) ?_
  rintro _ H29 ⟨rfl,hp29⟩
  have hq29:=hp27.trans (hp28.trans hp29)
  have hb29:=hb26.trans hq29
  have ga29:=hq29.get ga26
  have gb29:=hq29.get gb26
  have gx29:=hq29.get gx26
  have gy29:=hq29.get gy26
  have gz29:=hq29.get gz26
  clear T27 hr27 hr28 hq29 hp27 hp28 hp29
  simp (disch:=omega) only [zA,zB,zC,zD,zF,zG,zH,↓reduceIte,ga29,gb29]
  obtain⟨S30,T30⟩:=TD
  refine FZ.mono (T30 _ hb29).1 ?_
  rintro r30 H30 ⟨hp30,hr30⟩
  have ga30:=hp30.get ga29
  have gb30:=hp30.get gb29
  have gx30:=hp30.get gx29
  have gy30:=hp30.get gy29
  have gz30:=hp30.get gz29
  simp (disch:=omega) only [zA,zB,zC,zD,zF,zG,zH,Nat.reduceEqDiff,Nat.reduceLT,Nat.reduceLeDiff,↓reduceIte,ga30,gb30]
  refine FZ.mono (T30 _ (hb29.trans hp30)).2 ?_
  rintro r31 H31 ⟨hp31,hr31⟩
  simp (disch:=omega) only [zA,zB,zC,zD,zF,zG,zH,↓reduceIte]
  refine FZ.mono (qfw (hr30.pre hp31) hr31) ?_
  rintro _ H32 ⟨rfl,hp32⟩
  have hq32:=hp30.trans (hp31.trans hp32)
  have hb32:=hb29.trans hq32
  have ga32:=hq32.get ga29
  have gb32:=hq32.get gb29
  have gx32:=hq32.get gx29
  have gy32:=hq32.get gy29
  have gz32:=hq32.get gz29
  clear T30 hr30 hr31 hq32 hp30 hp31 hp32
  simp (disch:=omega) only [zA,zB,zC,zD,zF,zG,zH,↓reduceIte,ga32,gb32]
  obtain⟨S33,T33⟩:=TC
  refine FZ.mono (T33 _ hb32).1 ?_
  rintro r33 H33 ⟨hp33,hr33⟩
  have ga33:=hp33.get ga32
  have gb33:=hp33.get gb32
  have gx33:=hp33.get gx32
  have gy33:=hp33.get gy32
  have gz33:=hp33.get gz32
  simp (disch:=omega) only [zA,zB,zC,zD,zF,zG,zH,↓reduceIte,ga33,gb33]
  refine FZ.mono (T33 _ (hb32.trans hp33)).2 ?_
  rintro r34 H34 ⟨hp34,hr34⟩
  simp (disch:=omega) only [zA,zB,zC,zD,zF,zG,zH,↓reduceIte]
  refine FZ.mono (qfw (hr33.pre hp34) hr34) ?_
  rintro _ H35 ⟨rfl,hp35⟩
  have hq35:=hp33.trans (hp34.trans hp35)
  have hb35:=hb32.trans hq35
  have ga35:=hq35.get ga32
  have gb35:=hq35.get gb32
  have gx35:=hq35.get gx32
  have gy35:=hq35.get gy32
  have gz35:=hq35.get gz32
  clear T33 hr33 hr34 hq35 hp33 hp34 hp35
  simp (disch:=omega) only [zA,zB,zC,zD,zF,zG,zH,↓reduceIte,ga35]
  obtain⟨S36,T36⟩:=(two_ev Q hA (by omega) (by omega)).at_ (H0:=H17) (l:=[codv q na va]) fun _ hp=>⟨_,rfl,isC.at hA17 _ hp⟩
  refine FZ.mono (T36 _ hb35).1 ?_
  rintro r36 H36 ⟨hp36,hr36⟩
  have ga36:=hp36.get ga35
  have gb36:=hp36.get gb35
  have gx36:=hp36.get gx35
  have gy36:=hp36.get gy35
  have gz36:=hp36.get gz35
  simp (disch:=omega) only [zA,zB,zC,zD,zF,zG,zH,Nat.reduceEqDiff,Nat.reduceLT,Nat.reduceLeDiff,↓reduceIte,ga36]
  refine FZ.mono (T36 _ (hb35.trans hp36)).2 ?_
  rintro r37 H37 ⟨hp37,hr37⟩
  simp (disch:=omega) only [zA,zB,zC,zD,zF,zG,zH,↓reduceIte]
  refine FZ.mono (qfw (hr36.pre hp37) hr37) ?_
  rintro _ H38 ⟨rfl,hp38⟩
  have hq38:=hp36.trans (hp37.trans hp38)
  have hb38:=hb35.trans hq38
  have ga38:=hq38.get ga35
  have gb38:=hq38.get gb35
  have gx38:=hq38.get gx35
  have gy38:=hq38.get gy35
  have gz38:=hq38.get gz35
  clear T36 hr36 hr37 hq38 hp36 hp37 hp38
  simp (disch:=omega) only [zA,zB,zC,zD,zF,zG,zH,↓reduceIte,ga38]
  obtain⟨S39,T39⟩:=(two_turn Q hA.len (by omega) (by omega) (by omega) hgl).at_ (H0:=H17) (l:=[codv q na va,vg]) fun _ hp=>⟨_,_,rfl,isC.at hA17 _ hp,hg17.pre hp⟩
  refine FZ.mono (T39 _ hb38).1 ?_
  rintro r39 H39 ⟨hp39,hr39⟩
  have ga39:=hp39.get ga38
  have gb39:=hp39.get gb38
  have gx39:=hp39.get gx38
  have gy39:=hp39.get gy38
  have gz39:=hp39.get gz38
  simp (disch:=omega) only [zA,zB,zC,zD,zF,zG,zH,Nat.reduceEqDiff,Nat.reduceLT,Nat.reduceLeDiff,↓reduceIte,ga39]
  refine FZ.mono (T39 _ (hb38.trans hp39)).2 ?_
  rintro r40 H40 ⟨hp40,hr40⟩
  simp (disch:=omega) only [zA,zB,zC,zD,zF,zG,zH,↓reduceIte]
  refine FZ.mono (qfw (hr39.pre hp40) hr40) ?_
  rintro _ H41 ⟨rfl,hp41⟩
  have hq41:=hp39.trans (hp40.trans hp41)
  have hb41:=hb38.trans hq41
  have ga41:=hq41.get ga38
  have gb41:=hq41.get gb38
  have gx41:=hq41.get gx38
  have gy41:=hq41.get gy38
  have gz41:=hq41.get gz38
  clear T39 hr39 hr40 hq41 hp39 hp40 hp41
  simp (disch:=omega) only [zA,zB,zC,zD,zF,zG,zH,↓reduceIte,gx41,gy41]
  obtain⟨α',β,i1',i2',i3',i4',cda,cdb,p',e',p2,e2,blk',blk2,b0,b1,two,lift,Q4,Q2,BB,h2,hb0,hb1,hcc⟩:=Pf.fq42
  have Q4':FQ α' cda p' e' 4 blk':=Q4
  obtain⟨dA,hdA⟩:=dec_ex (Q4.ok 0)
  obtain⟨dB,hdB⟩:=dec_ex (Q2.ok 0)
  obtain⟨nc,hnc⟩:∃ nc,nc=1+n % 4:=⟨_,rfl⟩
  obtain⟨nd,hnd⟩:∃ nd,nd=2+n2 % 4:=⟨_,rfl⟩
  have hnc1:1≤nc∧nc≤4:=by omega
  have hnd1:2≤nd∧nd≤5:=by omega
  have hcw:∀ x∈qk7 dA us 4 (1+n % 4) (m % 5),x.length=1+n % 4:=fun x hx=>by obtain⟨i,_,rfl⟩:=List.mem_map.1 hx;simp
  obtain⟨hCr,_,hCl⟩:=qbz hcw
  have hcl:(qk7 dA us 4 (1+n % 4) (m % 5)).length=m % 5:=by simp [qk7]
  have hX41:=hX17.trans hb41
  refine FZ.mono (qp6 Q4 hdA hm hus (hx.pre hX41)) ?_
  rintro _ H42 ⟨hp42,wc42,rfl,hwc42⟩
  have gx42:=hp42.get gx41
  have gy42:=hp42.get gy41
  have gz42:=hp42.get gz41
  have hX42:=hX41.trans hp42
  have ga42:=hp42.get ga41
  simp (disch:=omega) only [zA,zB,zC,zD,zF,zG,zH,Nat.reduceEqDiff,Nat.reduceLT,Nat.reduceLeDiff,↓reduceIte,gx42,gy42,gz42]
  refine FZ.mono (qqb Q2 hdB hm2 hn2 hws (hy.pre hX42)) ?_
  rintro _ H43 ⟨hp43,wd43,rfl,hDr,hDl,hwd43⟩
  have gx43:=hp43.get gx42
  have gy43:=hp43.get gy42
  have gz43:=hp43.get gz42
  have hX43:=hX42.trans hp43
  have ga43:=hp43.get ga42
  simp (disch:=omega) only [zA,zB,zC,zD,zF,zG,zH,Nat.reduceEqDiff,Nat.reduceLT,Nat.reduceLeDiff,↓reduceIte,gx43,gy43,gz43]
  obtain⟨Sc,hSc⟩:=two_cat (p2:=p2) (e2:=e2) (blk2:=blk2) Q4' Q2 h2 hb0 hb1 hcc hCr.len hDr.len (by omega) (by omega) (by omega) (by omega) (by omega) (by omega)
  refine FZ.mono (hSc H43 _ ⟨_,_,rfl,⟨_,rfl,hwc42.rowR.pre hp43⟩,⟨_,rfl,hwd43.rowR⟩⟩).1 ?_
  rintro r44 H44 ⟨hp44,hr44⟩
  have gx44:=hp44.get gx43
  have gy44:=hp44.get gy43
  have gz44:=hp44.get gz43
  have hX44:=hX43.trans hp44
  have ga44:=hp44.get ga43
  simp (disch:=omega) only [zA,zB,zC,zD,zF,zG,zH,Nat.reduceEqDiff,Nat.reduceLT,Nat.reduceLeDiff,↓reduceIte,gx44,gy44]
  refine FZ.mono (qp6 Q4 hdA hm hus (hx.pre hX44)) ?_
  rintro _ H45 ⟨hp45,wc45,rfl,hwc45⟩
  have gx45:=hp45.get gx44
  have gy45:=hp45.get gy44
  have gz45:=hp45.get gz44
  have hX45:=hX44.trans hp45
  have ga45:=hp45.get ga44
  simp (disch:=omega) only [zA,zB,zC,zD,zF,zG,zH,Nat.reduceEqDiff,Nat.reduceLT,Nat.reduceLeDiff,↓reduceIte,gx45,gy45,gz45]
  refine FZ.mono (qqb Q2 hdB hm2 hn2 hws (hy.pre hX45)) ?_
  rintro _ H46 ⟨hp46,wd46,rfl,_,_,hwd46⟩
  have gx46:=hp46.get gx45
  have gy46:=hp46.get gy45
  have gz46:=hp46.get gz45
  have hX46:=hX45.trans hp46
  have ga46:=hp46.get ga45
  simp (disch:=omega) only [zA,zB,zC,zD,zF,zG,zH,↓reduceIte,gx46,gy46,gz46]
  refine FZ.mono (hSc H46 _ ⟨_,_,rfl,⟨_,rfl,hwc45.rowR.pre hp46⟩,⟨_,rfl,hwd46.rowR⟩⟩).2 ?_
  rintro r47 H47 ⟨hp47,hr47⟩
  have gx47:=hp47.get gx46
  have gy47:=hp47.get gy46
  have gz47:=hp47.get gz46
  have hX47:=hX46.trans hp47
  have ga47:=hp47.get ga46
  simp (disch:=omega) only [zA,zB,zC,zD,zF,zG,zH,↓reduceIte]
  refine FZ.mono (qfw (hr44.pre (hp45.trans (hp46.trans hp47))) hr47) ?_
  rintro _ H48 ⟨rfl,hp48⟩
  have gx48:=hp48.get gx47
  have gy48:=hp48.get gy47
  have gz48:=hp48.get gz47
  have hX48:=hX47.trans hp48
  have ga48:=hp48.get ga47
  simp (disch:=omega) only [zA,zB,zC,zD,zF,zG,zH,↓reduceIte,ga48]
  have hb48:Pre H17 H48:=hb41.trans (hp42.trans (hp43.trans (hp44.trans (hp45.trans (hp46.trans (hp47.trans (hp48)))))))
  clear hp42 hp43 hp44 hp45 hp46 hp47 hp48 hSc hr44 hr47 hwc42 hwd43 hwc45 hwd46
  have hDu:=qqg hA
  have hDul:=hDu.le
  have hAg:=hA17.pre hb48
  refine FZ.mono (qkg Q hAg hA (by omega) (by omega)) ?_
  rintro _ H49 ⟨hp49,vd,rfl,hvd⟩
  have sd:=qbs (H:=H49++[.cells [nv 0,nv 0,.slice none 0 0] 29 none false]) (bl:=H49.length) (x:=nv q) (y:=nv na) (z:=vd) (c0:=nv 0) (c1:=nv 0) (c2:=.slice none 0 0) (e:=29) (op:=none) rfl rfl hvd.one
  rw [qb2] at sd
  obtain⟨H50,hH50⟩:∃ H',H'=H49++[.cells [nv q,nv na,vd] 29 none false]:=⟨_,rfl⟩
  have hpB:Pre H48 H50:=by rw [hH50];exact hp49.trans (Pre.new _ _)
  have gd50:H50[H49.length]? = some (.cells [nv q,nv na,vd] 29 none false):=by rw [hH50];simp
  have hDB:RowR H50 vd (evr cd (qcn na A)):=by rw [hH50];exact hvd.rowR.pre (Pre.new _ _)
  have hAB:=hAg.pre hpB
  have ga50:=hpB.get ga48
  have gx50:=hpB.get gx48
  have gy50:=hpB.get gy48
  have gz50:=hpB.get gz48
  have hXB:=hX48.trans hpB
  have gdB:=gd50
  rw [←hH50] at sd
  simp (disch:=omega) only [zA,zB,zC,zD,zF,zG,zH,↓reduceIte,sd,gdB]
  clear hH50 sd gdB
  have hb50:Pre H50 H50:=Pre.refl _
  obtain⟨S51,T51⟩:=(two_sho Q hDu (by omega) (by omega) hI).at_ (H0:=H50) (l:=[codv q na vd,vi]) fun _ hp=>⟨_,rfl,isC.at hDB _ hp⟩
  refine FZ.mono (T51 _ hb50).1 ?_
  rintro r51 H51 ⟨hp51,hr51⟩
  have ga51:=hp51.get ga50
  have gd51:=hp51.get gd50
  have gx51:=hp51.get gx50
  have gy51:=hp51.get gy50
  have gz51:=hp51.get gz50
  simp (disch:=omega) only [zA,zB,zC,zD,zF,zG,zH,↓reduceIte,gd51]
  refine FZ.mono (T51 _ (hb50.trans hp51)).2 ?_
  rintro r52 H52 ⟨hp52,hr52⟩
  simp (disch:=omega) only [zA,zB,zC,zD,zF,zG,zH,Nat.reduceEqDiff,Nat.reduceLT,Nat.reduceLeDiff,↓reduceIte]
  refine FZ.mono (qfw (hr51.pre hp52) hr52) ?_
  rintro _ H53 ⟨rfl,hp53⟩
  have hq53:=hp51.trans (hp52.trans hp53)
  have hb53:=hb50.trans hq53
  have ga53:=hq53.get ga50
  have gd53:=hq53.get gd50
  have gx53:=hq53.get gx50
  have gy53:=hq53.get gy50
  have gz53:=hq53.get gz50
  clear T51 hr51 hr52 hq53 hp51 hp52 hp53
  simp (disch:=omega) only [zA,zB,zC,zD,zF,zG,zH,Nat.reduceEqDiff,Nat.reduceLT,Nat.reduceLeDiff,↓reduceIte,gd53]
  obtain⟨S54,T54⟩:=(two_ev Q hDu (by omega) (by omega)).at_ (H0:=H50) (l:=[codv q na vd]) fun _ hp=>⟨_,rfl,isC.at hDB _ hp⟩
  refine FZ.mono (T54 _ hb53).1 ?_
  rintro r54 H54 ⟨hp54,hr54⟩
  have ga54:=hp54.get ga53
  have gd54:=hp54.get gd53
  have gx54:=hp54.get gx53
  have gy54:=hp54.get gy53
  have gz54:=hp54.get gz53
  simp (disch:=omega) only [zA,zB,zC,zD,zF,zG,zH,Nat.reduceEqDiff,Nat.reduceLT,Nat.reduceLeDiff,↓reduceIte,gd54]
  refine FZ.mono (T54 _ (hb53.trans hp54)).2 ?_
  rintro r55 H55 ⟨hp55,hr55⟩
  simp (disch:=omega) only [zA,zB,zC,zD,zF,zG,zH,Nat.reduceEqDiff,Nat.reduceLT,Nat.reduceLeDiff,↓reduceIte]
  refine FZ.mono (qfw (hr54.pre hp55) hr55) ?_
  rintro _ H56 ⟨rfl,hp56⟩
  have hq56:=hp54.trans (hp55.trans hp56)
  have hb56:=hb53.trans hq56
  have ga56:=hq56.get ga53
  have gd56:=hq56.get gd53
  have gx56:=hq56.get gx53
  have gy56:=hq56.get gy53
  have gz56:=hq56.get gz53
  clear T54 hr54 hr55 hq56 hp54 hp55 hp56
  simp (disch:=omega) only [zA,zB,zC,zD,zF,zG,zH,Nat.reduceEqDiff,Nat.reduceLT,Nat.reduceLeDiff,↓reduceIte,ga56,gd56]
  obtain⟨S57,T57⟩:=(two_dbl Q hA.len hDu.len (by omega) (by omega) (by omega) (by omega)).at_ (H0:=H50) (l:=[codv q na va,codv q na vd]) fun _ hp=>⟨_,_,rfl,isC.at hAB _ hp,isC.at hDB _ hp⟩
  refine FZ.mono (T57 _ hb56).1 ?_
  rintro r57 H57 ⟨hp57,hr57⟩
  have ga57:=hp57.get ga56
  have gd57:=hp57.get gd56
  have gx57:=hp57.get gx56
  have gy57:=hp57.get gy56
  have gz57:=hp57.get gz56
  simp (disch:=omega) only [zA,zB,zC,zD,zF,zG,zH,Nat.reduceEqDiff,Nat.reduceLT,Nat.reduceLeDiff,↓reduceIte,ga57,gd57]
  refine FZ.mono (T57 _ (hb56.trans hp57)).2 ?_
  rintro r58 H58 ⟨hp58,hr58⟩
  simp (disch:=omega) only [zA,zB,zC,zD,zF,zG,zH,↓reduceIte]
  refine FZ.mono (qfw (hr57.pre hp58) hr58) ?_
  rintro _ H59 ⟨rfl,hp59⟩
  have hq59:=hp57.trans (hp58.trans hp59)
  have hb59:=hb56.trans hq59
  have ga59:=hq59.get ga56
  have gd59:=hq59.get gd56
  have gx59:=hq59.get gx56
  have gy59:=hq59.get gy56
  have gz59:=hq59.get gz56
  clear T57 hr57 hr58 hq59 hp57 hp58 hp59
  simp (disch:=omega) only [zA,zB,zC,zD,zF,zG,zH,↓reduceIte,ga59]
  have pc:∀ q n (v:Value) er,qbc (.prt (some 3) 0) [gotv q n v er]=some (codv q n v):=fun _ _ _ _=>rfl
  have hA59:=hAB.pre hb59
  refine FZ.mono (sumIn_c Q hA59 hA59 hA.len hA.len (by omega) (by omega) (by omega) (by omega) (by omega)) ?_
  rintro _ H60 ⟨hp60,vl,rfl,hvl⟩
  have hSw:=lsum_bd (n:=na) (m:=na) A A (by omega) (by omega)
  obtain⟨hLr,_,hLl⟩:=qbz hSw.2
  have hLl:(qbk (lsum na na A A)).length≤16:=Nat.le_trans hLl (by unfold lsum;rw [List.length_append,List.length_map,List.length_map];omega)
  have sl:=qbs (H:=H60++[.cells [nv 0,nv 0,.slice none 0 0] 29 none false]) (bl:=H60.length) (x:=nv q) (y:=nv (na+na)) (z:=vl) (c0:=nv 0) (c1:=nv 0) (c2:=.slice none 0 0) (e:=29) (op:=none) rfl rfl hvl.one
  rw [qb2] at sl
  obtain⟨H61,hH61⟩:∃ H',H'=H60++[.cells [nv q,nv (na+na),vl] 29 none false]:=⟨_,rfl⟩
  have hpL:Pre H59 H61:=by rw [hH61];exact hp60.trans (Pre.new _ _)
  have gl61:H61[H60.length]? = some (.cells [nv q,nv (na+na),vl] 29 none false):=by rw [hH61];simp
  have hLL:RowR H61 vl (evr cd (qbk (lsum na na A A))):=by rw [hH61];exact hvl.rowR.pre (Pre.new _ _)
  have hDL:=hDB.pre (hb59.trans hpL)
  have hXL:=hXB.trans (hb59.trans hpL)
  have ga61:=hpL.get ga59
  have gd61:=hpL.get gd59
  have gx61:=hpL.get gx59
  have gy61:=hpL.get gy59
  have gz61:=hpL.get gz59
  rw [←hH61] at sl
  have glL:=gl61
  simp (disch:=omega) only [zA,zB,zC,zD,zF,zG,zH,↓reduceIte,pc,sl,glL,gd61]
  clear hH61 sl glL
  have hb61:Pre H61 H61:=Pre.refl _
  obtain⟨S62,T62⟩:=(two_sum Q hLr.len hDu.len (by omega) (by omega) (by omega) (by omega) (by omega)).at_ (H0:=H61) (l:=[codv q (na+na) vl,codv q na vd]) fun _ hp=>⟨_,_,rfl,isC.at hLL _ hp,isC.at hDL _ hp⟩
  refine FZ.mono (T62 _ hb61).1 ?_
  rintro r62 H62 ⟨hp62,hr62⟩
  have ga62:=hp62.get ga61
  have gd62:=hp62.get gd61
  have gl62:=hp62.get gl61
  have gx62:=hp62.get gx61
  have gy62:=hp62.get gy61
  have gz62:=hp62.get gz61
  simp (disch:=omega) only [zA,zB,zC,zD,zF,zG,zH,↓reduceIte,gl62,gd62]
  refine FZ.mono (T62 _ (hb61.trans hp62)).2 ?_
  rintro r63 H63 ⟨hp63,hr63⟩
  simp (disch:=(first|omega|(simp only [qbj]<;>omega)|(simp only [qbg];done)|rfl)) only [zA,zB,zC,zD,zF,zG,zH,Nat.reduceEqDiff,Nat.reduceLT,Nat.reduceLeDiff,↓reduceIte]
  refine FZ.mono (qfw (hr62.pre hp63) hr63) ?_
  rintro _ H64 ⟨rfl,hp64⟩
  have hq64:=hp62.trans (hp63.trans hp64)
  have hb64:=hb61.trans hq64
  have ga64:=hq64.get ga61
  have gd64:=hq64.get gd61
  have gl64:=hq64.get gl61
  have gx64:=hq64.get gx61
  have gy64:=hq64.get gy61
  have gz64:=hq64.get gz61
  clear T62 hr62 hr63 hq64 hp62 hp63 hp64
  simp (disch:=(first|omega|(simp only [qbj]<;>omega)|(simp only [qbg];done)|rfl)) only [zA,zB,zC,zD,zF,zG,zH,Nat.reduceEqDiff,Nat.reduceLT,Nat.reduceLeDiff,↓reduceIte,gl64]
  obtain⟨S65,T65⟩:=(two_dbl Q hLr.len hLr.len (by omega) (by omega) (by omega) (by omega)).at_ (H0:=H61) (l:=[codv q (na+na) vl,codv q (na+na) vl]) fun _ hp=>⟨_,_,rfl,isC.at hLL _ hp,isC.at hLL _ hp⟩
  refine FZ.mono (T65 _ hb64).1 ?_
  rintro r65 H65 ⟨hp65,hr65⟩
  have ga65:=hp65.get ga64
  have gd65:=hp65.get gd64
  have gl65:=hp65.get gl64
  have gx65:=hp65.get gx64
  have gy65:=hp65.get gy64
  have gz65:=hp65.get gz64
  simp (disch:=(first|omega|(simp only [qbj]<;>omega)|(simp only [qbg];done)|rfl)) only [zA,zB,zC,zD,zF,zG,zH,Nat.reduceEqDiff,Nat.reduceLT,Nat.reduceLeDiff,↓reduceIte,gl65]
  refine FZ.mono (T65 _ (hb64.trans hp65)).2 ?_
  rintro r66 H66 ⟨hp66,hr66⟩
  simp (disch:=(first|omega|(simp only [qbj]<;>omega)|(simp only [qbg];done)|rfl)) only [zA,zB,zC,zD,zF,zG,zH,Nat.reduceEqDiff,Nat.reduceLT,Nat.reduceLeDiff,↓reduceIte]
  refine FZ.mono (qfw (hr65.pre hp66) hr66) ?_
  rintro _ H67 ⟨rfl,hp67⟩
  have hq67:=hp65.trans (hp66.trans hp67)
  have hb67:=hb64.trans hq67
  have ga67:=hq67.get ga64
  have gd67:=hq67.get gd64
  have gl67:=hq67.get gl64
  have gx67:=hq67.get gx64
  have gy67:=hq67.get gy64
  have gz67:=hq67.get gz64
  clear T65 hr65 hr66 hq67 hp65 hp66 hp67
  obtain⟨nz,hnz⟩:∃ nz,nz=1+z4 % 10:=⟨_,rfl⟩
  have hnz1:1≤nz∧nz≤10:=by omega
  have hf:qbr [nv 0,nv 0,.slice none 0 0] [(0,1),(1,1)] [nv 2,nv (1+z4 % 10)]=some [nv 2,nv (1+z4 % 10),.slice none 0 0]:=rfl
  have hX67:=hXL.trans hb67
  have hnil:∀ H:AH,RowR H (.slice none 0 0) (evr cdb []):=fun H=>⟨[],Acc.nil.x (H0:=H) (e:=31),⟨rfl,by simp [evr]⟩⟩
  have hSw2:=lsum_bd (n:=nd) (m:=nz) (innM dB ws nd m2) [] (by rw [hnd];omega) (by simp)
  obtain⟨hMr,_,hMl⟩:=qbz hSw2.2
  have hMl2:(qbk (lsum nd nz (innM dB ws nd m2) [])).length≤200:=Nat.le_trans hMl (by unfold lsum;rw [List.length_append,List.length_map,hnd];simp;omega)
  obtain⟨Sd,hSd⟩:=two_cat (p2:=p2) (e2:=e2) (blk2:=blk2) Q4' Q2 h2 hb0 hb1 hcc hCr.len hMr.len (by omega) hMl2 (by omega) (by omega) (by omega) (by omega)
  simp (disch:=(first|omega|(simp only [qbj]<;>omega)|(simp only [qbg];done)|rfl)) only [zA,zB,zC,zD,zF,zG,zH,Nat.reduceEqDiff,Nat.reduceLT,Nat.reduceLeDiff,↓reduceIte,gx67,gy67,gz67,ci4,hf]
  rw [←hnz]
  clear hf
  refine FZ.mono (qp6 Q4 hdA hm hus (hx.pre hX67)) ?_
  rintro _ H68 ⟨hp68,wc68,rfl,hwc68⟩
  have gx68:=hp68.get gx67
  have gy68:=hp68.get gy67
  have gz68:=hp68.get gz67
  have hX68:=hX67.trans hp68
  have ga68:=hp68.get ga67
  simp (disch:=(first|omega|(simp only [qbj]<;>omega)|(simp only [qbg];done)|rfl)) only [zA,zB,zC,zD,zF,zG,zH,Nat.reduceEqDiff,Nat.reduceLT,Nat.reduceLeDiff,↓reduceIte,gx68,gy68,gz68]
  refine FZ.mono (qqb Q2 hdB hm2 hn2 hws (hy.pre hX68)) ?_
  rintro _ H69 ⟨hp69,wd69,rfl,_,_,hwd69⟩
  have gx69:=hp69.get gx68
  have gy69:=hp69.get gy68
  have gz69:=hp69.get gz68
  have hX69:=hX68.trans hp69
  have ga69:=hp69.get ga68
  simp (disch:=(first|omega|(simp only [qbj]<;>omega)|(simp only [qbg];done)|rfl)) only [zA,zB,zC,zD,zF,zG,zH,Nat.reduceEqDiff,Nat.reduceLT,Nat.reduceLeDiff,↓reduceIte,gx69,gy69,gz69]
  refine FZ.mono (sumIn_c Q2 hwd69.rowR (hnil _) (n:=2+n2 % 4) (m:=nz) (A:=innM dB ws (2+n2 % 4) m2) (B:=[]) hDr.len (by simp) (by omega) (by simp) (by omega) (by omega) (by omega)) ?_
  rintro _ H70 ⟨hp70,ws70,rfl,hws70⟩
  have gx70:=hp70.get gx69
  have gy70:=hp70.get gy69
  have gz70:=hp70.get gz69
  have hX70:=hX69.trans hp70
  have ga70:=hp70.get ga69
  simp (disch:=(first|omega|(simp only [qbj]<;>omega)|(simp only [qbg];done)|rfl)) only [zA,zB,zC,zD,zF,zG,zH,Nat.reduceEqDiff,Nat.reduceLT,Nat.reduceLeDiff,↓reduceIte,pc,gx70,gy70,gz70]
  rw [←hnd] at hws70
  rw [←hnd]
  refine FZ.mono (hSd H70 _ ⟨_,_,rfl,⟨_,rfl,hwc68.rowR.pre (hp69.trans hp70)⟩,⟨_,rfl,hws70.rowR⟩⟩).1 ?_
  rintro r71 H71 ⟨hp71,hr71⟩
  have gx71:=hp71.get gx70
  have gy71:=hp71.get gy70
  have gz71:=hp71.get gz70
  have hX71:=hX70.trans hp71
  have ga71:=hp71.get ga70
  simp (disch:=(first|omega|(simp only [qbj]<;>omega)|(simp only [qbg];done)|rfl)) only [zA,zB,zC,zD,zF,zG,zH,Nat.reduceEqDiff,Nat.reduceLT,Nat.reduceLeDiff,↓reduceIte,gx71,gy71,gz71]
  refine FZ.mono (qp6 Q4 hdA hm hus (hx.pre hX71)) ?_
  rintro _ H72 ⟨hp72,wc72,rfl,hwc72⟩
  have gx72:=hp72.get gx71
  have gy72:=hp72.get gy71
  have gz72:=hp72.get gz71
  have hX72:=hX71.trans hp72
  have ga72:=hp72.get ga71
  simp (disch:=(first|omega|(simp only [qbj]<;>omega)|(simp only [qbg];done)|rfl)) only [zA,zB,zC,zD,zF,zG,zH,Nat.reduceEqDiff,Nat.reduceLT,Nat.reduceLeDiff,↓reduceIte,gx72,gy72,gz72]
  refine FZ.mono (qqb Q2 hdB hm2 hn2 hws (hy.pre hX72)) ?_
  rintro _ H73 ⟨hp73,wd73,rfl,_,_,hwd73⟩
  have gx73:=hp73.get gx72
  have gy73:=hp73.get gy72
  have gz73:=hp73.get gz72
  have hX73:=hX72.trans hp73
  have ga73:=hp73.get ga72
  simp (disch:=(first|omega|(simp only [qbj]<;>omega)|(simp only [qbg];done)|rfl)) only [zA,zB,zC,zD,zF,zG,zH,Nat.reduceEqDiff,Nat.reduceLT,Nat.reduceLeDiff,↓reduceIte,gx73,gy73,gz73]
  refine FZ.mono (sumIn_c Q2 hwd73.rowR (hnil _) (n:=2+n2 % 4) (m:=nz) (A:=innM dB ws (2+n2 % 4) m2) (B:=[]) hDr.len (by simp) (by omega) (by simp) (by omega) (by omega) (by omega)) ?_
  rintro _ H74 ⟨hp74,ws74,rfl,hws74⟩
  have gx74:=hp74.get gx73
  have gy74:=hp74.get gy73
  have gz74:=hp74.get gz73
  have hX74:=hX73.trans hp74
  have ga74:=hp74.get ga73
  simp (disch:=omega) only [zA,zB,zC,zD,zF,zG,zH,↓reduceIte,pc,gx74,gy74,gz74]
  rw [←hnd] at hws74
  rw [←hnd]
  refine FZ.mono (hSd H74 _ ⟨_,_,rfl,⟨_,rfl,hwc72.rowR.pre (hp73.trans hp74)⟩,⟨_,rfl,hws74.rowR⟩⟩).2 ?_
  rintro r75 H75 ⟨hp75,hr75⟩
  have gx75:=hp75.get gx74
  have gy75:=hp75.get gy74
  have gz75:=hp75.get gz74
  have hX75:=hX74.trans hp75
  have ga75:=hp75.get ga74
  simp (disch:=omega) only [zA,zB,zC,zD,zF,zG,zH,↓reduceIte,gx75,gy75,gz75]
  refine FZ.mono (qfw (hr71.pre (hp72.trans (hp73.trans (hp74.trans (hp75))))) hr75) ?_
  rintro _ H76 ⟨rfl,hp76⟩
  simp (disch:=omega) only [zA,zB,zC,zD,zF,zG,zH,↓reduceIte]
  exact hX75.trans hp76
end Go.Sim
