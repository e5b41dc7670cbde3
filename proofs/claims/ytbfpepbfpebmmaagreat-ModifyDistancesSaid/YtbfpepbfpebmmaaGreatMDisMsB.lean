/- Part of the proof: MsB. -/
import Derived.Test.YtbfpepbfpebmmaaGreatMDisMsPToMsA
import Derived.Test.YtbfpepbfpebmmaaGreatMDisMpE
import Derived.Test.YtbfpepbfpebmmaaGreatMDisMpH
set_option linter.all false
namespace Go.Sim
open Go Go.Proofs
section
variable {H:AH} {c c':List Value} {e:TypeId} {X Y:AB} {o:Nat} {v:Value}
theorem st_fst (hv:cellsL v=[v]) (h1:one v=true) (ho:o<c.length) (hc:c.set o v=c'):stB 1 (H++[.cells c e none false,Y]) (some (.cells c e none false)) H.length o v=some (undef,H++[.cells c' e none false,Y]):=by
  rw [stB_one hv h1 ho,List.set_append_right _ _ (Nat.le_refl _),hc];simp
theorem st_snd (hv:cellsL v=[v]) (h1:one v=true) (ho:o<c.length) (hc:c.set o v=c'):stB 1 (H++[X,.cells c e none false]) (some (.cells c e none false)) (H.length+1) o v=some (undef,H++[X,.cells c' e none false]):=by
  rw [stB_one hv h1 ho,List.set_append_right _ _ (by omega),hc];simp
end
structure Hid (p:Prop):Prop where
  out:p
theorem mpR {R G:Prop} (h:Hid R→G) (r:R):G:=h ⟨r⟩
theorem mpH {R:AH→Prop} {G:Prop} (H0:AH) (h:(∀ H',Pre H0 H'→Hid (R H'))→G) (r:∀ H',Pre H0 H'→R H'):G:=h fun H' hp=>⟨r H' hp⟩
theorem bq_tf:(true == false)=false:=rfl
theorem bq_ft:(false == true)=false:=rfl
theorem add8 {a:Nat} (h:a<2):xbin .add 0 (.int .u8 1) (bv a)=some (bv (1+a)):=by
  rcases (show a=0∨a=1 by omega) with rfl|rfl<;>rfl
theorem lss8 {a b:Nat}:xbin .lss 0 (bv a) (.int .u8 (b:Int))=some (.bool (decide (a<b))):=by
  show some (Value.bool (decide ((a:Int)<(b:Int))))=_
  congr 2
  exact decide_eq_decide.2 (by omega)
section
variable {α:Type} [Fl α] [DecidableEq α] {cd:α→Nat} {p e b c q:Nat} {blk:AB} {H:AH}
theorem wt_par (F:FOK α cd p e b c 2 blk) {n:Nat} {v:Vc α} (hs:vsum n v=Fl.zero):vwt n v % 2=0:=by
  have hl:((List.range n).map v).length=n:=by simp
  have hg:∀ j,j<n→toV ((List.range n).map v) j=v j:=fun j hj=>by simp [toV,List.getD_eq_getElem?_getD,hj]
  have h1:=wt_sum F n _ hl
  rw [lwt_vwt n _ hl,vwt_cong n hg,vsum_cong n hg,hs] at h1
  have:¬vwt n v % 2=1:=fun h=>h1.1 h rfl
  omega
end
theorem boxed {H0 H1:AH} {q n L:Nat} {v:Value} {M:List (List Value)} (hp:Pre (H0++[.cells [nv 0,nv 0,.slice none 0 0] 29 none false]) H1) (hv:Lw.RowLo L H1 v M) (hL:H0.length<L) :
    H1[H0.length]? = some (.cells [nv 0,nv 0,.slice none 0 0] 29 none false)∧∃ H2,stB 3 H1 (some (.cells [nv 0,nv 0,.slice none 0 0] 29 none false)) H0.length 0 (codv q n v)=some (undef,H2)∧Pre H0 H2∧H2[H0.length]? = some (.cells [nv q,nv n,v] 29 none false)∧RowR H2 v M:=by
  have g:H1[H0.length]? = some (.cells [nv 0,nv 0,.slice none 0 0] 29 none false):=hp.get (by simp)
  refine⟨g,_,stB_three (x:=nv q) (y:=nv n) (z:=v) rfl rfl hv.one,((Pre.new H0 _).trans hp).set (Nat.le_refl _) _,List.getElem?_set_self (get_lt g),(hv.setLow (x:=H0.length) hL).rowR⟩
theorem min2N {a b:Nat}:xpure .min2 [nv a,nv b]=some (nv (min a b)):=by
  show (if IntKind.i64=IntKind.i64 then some (Value.int .i64 (if (b:Int)<a then (b:Int) else a)) else none)=_
  rw [if_pos rfl]
  by_cases h:b<a
  · rw [if_pos (by omega),Nat.min_eq_right (by omega)]
  · rw [if_neg (by omega),Nat.min_eq_left (by omega)]
set_option maxRecDepth 4000 in
set_option maxHeartbeats 8000000 in
theorem law4 (hE:ExMo) {H:AH} {x y:Value} {us ws:List Nat} {k n m k2 n2 m2 i0:Nat} (hm:m<256) (hm2:m2<256) (hn2:n2<256) (hi0:i0<256) (hus:∀ u∈us,u<256) (hws:∀ u∈ws,u<256) (hx:Row H x (us.map bv)) (hy:Row H y (ws.map bv)) :
    FN Tryz.prog 4 [rawv k n m x,rawv k2 n2 m2 y,bv i0] H (fun r H'=>r=.bool true∧H'=H):=by
  refine FN.pre0 (g4_of ?_) rfl
  unfold g4
  have hxo:=hx.one
  have hyo:=hy.one
  simp (disch:=omega) only [zA,zB,zC,zD,zF,zG,zH,↓reduceIte]
  refine FZ.use (hE _) ?_
  have r2:xbin .rem 0 (bv m) (.int .u8 2)=some (bv (m % 2)):=rem8 (m:=2) (by decide)
  have r2':xbin .rem 0 (bv m2) (.int .u8 2)=some (bv (m2 % 2)):=rem8 (m:=2) (by decide)
  have r6:xbin .rem 0 (bv k) (.int .u8 6)=some (bv (k % 6)):=rem8 (m:=6) (by decide)
  have a1:=add8 (a:=m % 2) (Nat.mod_lt _ (by decide))
  have a2:=add8 (a:=m2 % 2) (Nat.mod_lt _ (by decide))
  have l2:xbin .lss 0 (bv (k % 6)) (.int .u8 2)=some (.bool (decide (k % 6<2))):=lss8 (b:=2)
  have s1:=st_snd (H:=H) (X:=.cells [bv k,bv n,bv m,x] 24 none false) (c:=[bv k2,bv n2,bv m2,y]) (e:=24) (o:=0) (v:=bv k) rfl rfl (by simp) rfl
  have s2:=st_fst (H:=H) (Y:=.cells [bv k,bv n2,bv m2,y] 24 none false) (c:=[bv k,bv n,bv m,x]) (e:=24) (o:=2) (v:=bv (m % 2)) rfl rfl (by simp) rfl
  have s3:=st_snd (H:=H) (X:=.cells [bv k,bv n,bv (m % 2),x] 24 none false) (c:=[bv k,bv n2,bv m2,y]) (e:=24) (o:=2) (v:=bv (m2 % 2)) rfl rfl (by simp) rfl
  have s4:=st_fst (H:=H) (Y:=.cells [bv k,bv n2,bv (m2 % 2),y] 24 none false) (c:=[bv k,bv n,bv (m % 2),x]) (e:=24) (o:=2) (v:=bv (1+m % 2)) rfl rfl (by simp) rfl
  have s5:=st_snd (H:=H) (X:=.cells [bv k,bv n,bv (1+m % 2),x] 24 none false) (c:=[bv k,bv n2,bv (m2 % 2),y]) (e:=24) (o:=2) (v:=bv (1+m2 % 2)) rfl rfl (by simp) rfl
  simp only [List.set_cons_zero,List.set_cons_succ] at s1 s2 s3 s4 s5
  simp (disch:=omega) only [zA,zB,zC,zD,zF,zG,zH,↓reduceIte,s1,r2,s2,r2',s3]
  refine joinV0.via (fun H'=>∃ m1 m3:Nat,m1≤2∧m3≤2∧H'=H++[.cells [bv k,bv n,bv m1,x] 24 none false,.cells [bv k,bv n2,bv m3,y] 24 none false]) ?_ ?_
  · intro J hJ
    by_cases h:k % 6<2
    · simp (disch:=omega) only [zA,zB,zC,zD,zF,zG,zH,↓reduceIte,r6,l2,h,a1,s4,a2,s5]
      exact hJ _ ⟨1+m % 2,1+m2 % 2,by omega,by omega,rfl⟩
    · simp (disch:=omega) only [zA,zB,zC,zD,zF,zG,zH,↓reduceIte,r6,l2,h]
      exact hJ _ ⟨m % 2,m2 % 2,by omega,by omega,rfl⟩
  rintro _ ⟨m1,m3,hm1,hm3,rfl⟩
  clear r2 r2' r6 a1 a2 l2 s1 s2 s3 s4 s5
  simp (disch:=omega) only [zA,zB,zC,zD,zF,zG,zH,↓reduceIte]
  have hX0:=Pre.new H [.cells [bv k,bv n,bv m1,x] 24 none false,.cells [bv k,bv n2,bv m3,y] 24 none false]
  obtain⟨HX,hHX⟩:∃ HX,HX=H++[.cells [bv k,bv n,bv m1,x] 24 none false,.cells [bv k,bv n2,bv m3,y] 24 none false]:=⟨_,rfl⟩
  have gx0:HX[H.length]? = some (.cells [bv k,bv n,bv m1,x] 24 none false):=by rw [hHX];simp
  have gx1:HX[H.length+1]? = some (.cells [bv k,bv n2,bv m3,y] 24 none false):=by rw [hHX];simp
  rw [←hHX] at hX0 ⊢
  clear hHX
  obtain⟨α,i1,i2,cd,p,e,blk,Q⟩:=Pf.fq_at (k % 6) (Nat.mod_lt _ (by omega))
  refine FZ.mono (made3_c Q rfl (by omega) hus (hx.pre hX0)) ?_
  rintro _ H6 ⟨hp6,va,A,rfl,hA,hAm,hva⟩
  have hA2:A.length≤2:=Nat.le_trans hAm (Nat.le_trans (Nat.mod_le _ _) hm1)
  clear hAm
  have hq8:=Pf.ordM_le (show k % 6<6 from Nat.mod_lt _ (by omega))
  obtain⟨q,hq⟩:∃ q,q=Pf.ordM (k % 6):=⟨_,rfl⟩
  obtain⟨na,hna⟩:∃ na,na=1+n % 10:=⟨_,rfl⟩
  obtain⟨nb,hnb⟩:∃ nb,nb=1+n2 % 10:=⟨_,rfl⟩
  have hna1:1≤na∧na≤10:=by omega
  have hnb1:1≤nb∧nb≤10:=by omega
  rw [←hna] at hA ⊢
  rw [←hq] at hq8 ⊢
  have sa:=stB_three (H:=H6++[.cells [nv 0,nv 0,.slice none 0 0] 29 none false]) (bl:=H6.length) (x:=nv q) (y:=nv na) (z:=va) (c0:=nv 0) (c1:=nv 0) (c2:=.slice none 0 0) (e:=29) (op:=none) rfl rfl hva.one
  rw [set_last] at sa
  have gx16:=get_app (hp6.get gx1) [.cells [nv q,nv na,va] 29 none false]
  simp (disch:=omega) only [zA,zB,zC,zD,zF,zG,zH,↓reduceIte,sa,gx16]
  have hX8:=hp6.trans (Pre.new H6 [.cells [nv q,nv na,va] 29 none false])
  obtain⟨H8,hH8⟩:∃ H8,H8=H6++[.cells [nv q,nv na,va] 29 none false]:=⟨_,rfl⟩
  have ga8:H8[H6.length]? = some (.cells [nv q,nv na,va] 29 none false):=by rw [hH8];simp
  have hA8':RowR H8 va (evr cd A):=by rw [hH8];exact hva.rowR.pre (Pre.new _ _)
  rw [←hH8] at hX8 ⊢
  clear sa gx16 hH8
  refine FZ.mono (made3_c Q rfl (by omega) hws (hy.pre (hX0.trans hX8))) ?_
  rintro _ H9 ⟨hp9,vb,B,rfl,hB,hBm,hvb⟩
  have hB2:B.length≤2:=Nat.le_trans hBm (Nat.le_trans (Nat.mod_le _ _) hm3)
  clear hBm
  rw [←hnb] at hB ⊢
  rw [←hq] at Q ⊢
  have sb:=stB_three (H:=H9++[.cells [nv 0,nv 0,.slice none 0 0] 29 none false]) (bl:=H9.length) (x:=nv q) (y:=nv nb) (z:=vb) (c0:=nv 0) (c1:=nv 0) (c2:=.slice none 0 0) (e:=29) (op:=none) rfl rfl hvb.one
  rw [set_last] at sb
  have ga9:=get_app (hp9.get ga8) [.cells [nv q,nv nb,vb] 29 none false]
  have hp11:Pre H8 (H9++[.cells [nv q,nv nb,vb] 29 none false]):=hp9.trans (Pre.new _ _)
  have hA11:=hA8'.pre hp11
  have la11:=len_of hA11
  have gb11:(H9++[.cells [nv q,nv nb,vb] 29 none false])[H9.length]? = some (.cells [nv q,nv nb,vb] 29 none false):=by simp
  have hB11:RowR (H9++[.cells [nv q,nv nb,vb] 29 none false]) vb (evr cd B):=hvb.rowR.pre (Pre.new _ _)
  have lb11:=len_of hB11
  simp (disch:=omega) only [zA,zB,zC,zD,zF,zG,zH,↓reduceIte,sb,ga9,la11]
  obtain⟨H11,hH11⟩:∃ H11,H11=H9++[.cells [nv q,nv nb,vb] 29 none false]:=⟨_,rfl⟩
  rw [←hH11] at hp11 ga9 gb11 hA11 hB11 ⊢
  clear sb hH11
  have hX11:=hX8.trans hp11
  by_cases hA0:A.length=0
  · simp (disch:=omega) only [zA,zB,zC,zD,zF,zG,zH,↓reduceIte,hA0,ga9,gb11]
    exact hX0.trans hX11
  by_cases hB0:B.length=0
  · simp (disch:=omega) only [zA,zB,zC,zD,zF,zG,zH,↓reduceIte,hA0,hB0,ga9,gb11,lb11]
    exact hX0.trans hX11
  simp (disch:=omega) only [zA,zB,zC,zD,zF,zG,zH,↓reduceIte,hA0,hB0,ga9,gb11,lb11]
  have hA0:0<A.length:=by omega
  have hB0:0<B.length:=by omega
  have pw:∀ j,j≤4→q ^ j≤4096:=fun j hj=>Nat.le_trans (Nat.pow_le_pow_left hq8 j) (Nat.le_trans (Nat.pow_le_pow_right (by decide) hj) (by decide))
  refine FZ.mono (least_c Q hA11 hA rfl (pw _ (by omega)) (by omega)) ?_
  rintro _ H20 ⟨hp20,d,rfl,hd⟩
  have gb20:=hp20.get gb11
  simp (disch:=omega) only [zA,zB,zC,zD,zF,zG,zH,↓reduceIte,gb20]
  refine FZ.mono (least_c Q (hB11.pre hp20) hB rfl (pw _ (by omega)) (by omega)) ?_
  rintro _ H21 ⟨hp21,o,rfl,ho⟩
  have ga21:=(hp20.trans hp21).get ga9
  simp (disch:=omega) only [zA,zB,zC,zD,zF,zG,zH,↓reduceIte,ga21]
  have hA21:=hA11.pre (hp20.trans hp21)
  refine FZ.mono (extended_c Q hA21 hA.len (by omega) (by omega) (by omega)) ?_
  rintro _ H22 ⟨hp22,ve,rfl,hve⟩
  have hEr:=(lreduce_red ((LM.ext na).width hA.len)).1
  have hEd:=ext_dim hA
  have pc:∀ q n (v:Value) er,xpure (.prt (some 3) 0) [gotv q n v er]=some (codv q n v):=fun _ _ _ _=>rfl
  simp (disch:=omega) only [zA,zB,zC,zD,zF,zG,zH,↓reduceIte,pc]
  refine FZ.mono (least_c Q hve.rowR hEr hEd (pw _ (by omega)) (by omega)) ?_
  rintro _ H23 ⟨hp23,ed,rfl,hed⟩
  have ga23:=(hp22.trans hp23).get ga21
  have hext:=lst_ext hA hA0 hd hed
  have hdn:d≤100000:=by
    obtain⟨_,⟨v,_,hv⟩,_⟩:=hd.v hA0
    have:=vwt_le v na
    omega
  have nd:¬ed<d:=by omega
  have nd1:¬d+1<ed:=by omega
  apply mpR
  · intro hR
    by_cases hq2:q=2
    · have hev:ed % 2=0:=by
        obtain⟨v,_,hv,hw⟩:=lst_ex0 hA hA0 hd hed
        rw [←hw];exact wt_par (hq2 ▸ Q.ok 0:FOK α cd p e 0 e 2 blk) hv
      by_cases hed2:ed=d
      · rw [hed2] at hev
        have k1:¬d<d:=by omega
        have k2:¬d+1<d:=by omega
        simp (disch:=omega) only [zA,zB,zC,zD,zF,zG,zH,↓reduceIte,ga23,hq2,hev,hed2,k1,k2,Bool.not_true,Bool.not_false,beq_self_eq_true,bq_tf,bq_ft]
        exact hR.out
      · have hed3:ed=d+1:=by omega
        rw [hed3] at hev hed2
        have k1:¬d+1<d:=by omega
        have k2:¬d+1<d+1:=by omega
        simp (disch:=omega) only [zA,zB,zC,zD,zF,zG,zH,↓reduceIte,ga23,hq2,hev,hed3,hed2,k1,k2,Bool.not_true,Bool.not_false,beq_self_eq_true,bq_tf,bq_ft]
        exact hR.out
    · simp (disch:=omega) only [zA,zB,zC,zD,zF,zG,zH,↓reduceIte,ga23,hq2,nd,nd1]
      exact hR.out
  have hp23:Pre H11 H23:=hp20.trans (hp21.trans (hp22.trans hp23))
  have hA23:=hA11.pre hp23
  have hd1:1≤d:=(hd.v hA0).1
  have hbx:∀ {Hx:AH} {n:Nat} {w:Value},one w=true→stB 3 (Hx++[.cells [nv 0,nv 0,.slice none 0 0] 29 none false]) (some (.cells [nv 0,nv 0,.slice none 0 0] 29 none false)) Hx.length 0 (codv q n w)=some (undef,Hx++[.cells [nv q,nv n,w] 29 none false]):=fun {Hx n w} hw=>by
    have:=stB_three (H:=Hx++[.cells [nv 0,nv 0,.slice none 0 0] 29 none false]) (bl:=Hx.length) (x:=nv q) (y:=nv n) (z:=w) (c0:=nv 0) (c1:=nv 0) (c2:=.slice none 0 0) (e:=29) (op:=none) rfl rfl hw
    rwa [set_last] at this
  refine joinV0.via (fun H'=>Pre H23 H') ?_ ?_
  · intro J hJ
    by_cases hna2:1<na
    · have ci:xpure (.conv .i64) [bv i0]=some (nv i0):=xp_convN (by omega)
      have hnz:¬na=0:=by omega
      obtain⟨i,hi⟩:∃ i,i=i0 % na:=⟨_,rfl⟩
      have hin:i<na:=by rw [hi];exact Nat.mod_lt _ (by omega)
      simp (disch:=omega) only [zA,zB,zC,zD,zF,zG,zH,↓reduceIte,hna2,ga23,ci,hnz]
      rw [←hi]
      have hp24:=Pre.new H23 [.cells [nv 0,nv 0,.slice none 0 0] 29 none false]
      refine FZ.mono (punctured_c Q (hA23.pre hp24) hA.len (by omega) (by omega) (by omega) hin) ?_
      rintro _ H25 ⟨hp25,vp,rfl,hvp⟩
      obtain⟨gp25,H26,st26,hp26,gp26,hv26⟩:=boxed (q:=q) (n:=na-1) hp25 hvp (by simp)
      have hPl:(lreduce (A.map (pick (na-1) (skipP i)))).length≤A.length:=by
        have:=(lreduce_red ((LM.pick na (na-1) (skipP i)).width hA.len)).2.2
        rwa [List.length_map] at this
      have hPr:=((Cd.self hA).punct hin).red
      have ga26:=hp26.get ga23
      have hA26:=hA23.pre hp26
      simp (disch:=omega) only [zA,zB,zC,zD,zF,zG,zH,↓reduceIte,pc,gp25,st26,ga26,ci,hnz]
      rw [←hi]
      have hp27:=Pre.new H26 [.cells [nv 0,nv 0,.slice none 0 0] 29 none false]
      refine FZ.mono (shortened_c Q (hA26.pre hp27) hA.len (by omega) (by omega) (by omega) hin) ?_
      rintro _ H28 ⟨hp28,vs,rfl,hvs⟩
      obtain⟨gs28,H29,st29,hp29,gs29,hw29⟩:=boxed (q:=q) (n:=na-1) hp28 hvs (by simp)
      have hSl:(lreduce ((lkept (fun v=>v i) A).map (pick (na-1) (skipP i)))).length≤A.length:=by
        have h1:=(lreduce_red ((LM.pick na (na-1) (skipP i)).width (lkept_len (f:=fun v=>v i) hA.len))).2.2
        rw [List.length_map] at h1
        exact Nat.le_trans h1 (lkept_le _ _)
      have hSr:=((Cd.self hA).short hin).red
      have ga29:=hp29.get ga26
      have gp29:=hp29.get gp26
      have hA29:=hA26.pre hp29
      have hv29:=hv26.pre hp29
      have la29:=len_of hA29
      have lp29:=len_of hv29
      have lpun:∀ {e':Nat},Lst (lreduce (A.map (pick (na-1) (skipP i)))) (na-1) e'→(lreduce (A.map (pick (na-1) (skipP i)))).length=A.length→d≤e'+1∧e'≤d:=fun h1 h2=>lst_pun hA hA0 hd hin h1 h2
      have lsho:∀ {e':Nat},Lst (lreduce ((lkept (fun v=>v i) A).map (pick (na-1) (skipP i)))) (na-1) e'→0<(lreduce ((lkept (fun v=>v i) A).map (pick (na-1) (skipP i)))).length→d≤e':=fun h1 h2=>lst_sho hA hA0 hd hin h1 h2
      obtain⟨P,hP⟩:∃ P,P=lreduce (A.map (pick (na-1) (skipP i))):=⟨_,rfl⟩
      rw [←hP] at hv29 lp29 hPl hPr lpun
      clear hP hv26 hvp
      obtain⟨S,hS⟩:∃ S,S=lreduce ((lkept (fun v=>v i) A).map (pick (na-1) (skipP i))):=⟨_,rfl⟩
      rw [←hS] at hw29 hSl hSr lsho
      clear hS hvs
      simp (disch:=omega) only [zA,zB,zC,zD,zF,zG,zH,↓reduceIte,pc,gs28,st29,ga29,gp29,la29,lp29]
      apply mpH H29
      · intro hR
        by_cases hPA:P.length=A.length
        · simp (disch:=omega) only [zA,zB,zC,zD,zF,zG,zH,↓reduceIte,hPA,gp29]
          refine FZ.mono (least_c Q hv29 hPr rfl (pw _ (by omega)) (by omega)) ?_
          rintro _ H31 ⟨hp31,pd,rfl,hpd⟩
          have hl31:=lpun hpd hPA
          have n1:¬pd<d-1:=by omega
          have gp31:=hp31.get gp29
          simp (disch:=omega) only [zA,zB,zC,zD,zF,zG,zH,↓reduceIte,n1,gp31,hd1,hPA]
          refine FZ.mono (least_c Q (hv29.pre hp31) hPr rfl (pw _ (by omega)) (by omega)) ?_
          rintro _ H32 ⟨hp32,pd2,rfl,hpd2⟩
          have n2:¬d<pd2:=by have:=lpun hpd2 hPA;omega
          simp (disch:=omega) only [zA,zB,zC,zD,zF,zG,zH,↓reduceIte,n2,hPA]
          exact (hR _ (hp31.trans hp32)).out
        · simp (disch:=omega) only [zA,zB,zC,zD,zF,zG,zH,↓reduceIte,hPA]
          exact (hR _ (Pre.refl _)).out
      intro H39 hp39
      have gs39:=hp39.get gs29
      have ls39:=len_of (hw29.pre hp39)
      have fin39:Pre H23 H39:=hp26.trans (hp29.trans hp39)
      by_cases hS0:0<S.length
      · simp (disch:=omega) only [zA,zB,zC,zD,zF,zG,zH,↓reduceIte,gs39,ls39,hS0]
        refine FZ.mono (least_c Q (hw29.pre hp39) hSr rfl (pw _ (by omega)) (by omega)) ?_
        rintro _ H40 ⟨hp40,sd,rfl,hsd⟩
        have n3:¬sd<d:=by have:=lsho hsd hS0;omega
        simp (disch:=omega) only [zA,zB,zC,zD,zF,zG,zH,↓reduceIte,n3]
        exact hJ _ (fin39.trans hp40)
      · simp (disch:=omega) only [zA,zB,zC,zD,zF,zG,zH,↓reduceIte,gs39,ls39,hS0]
        exact hJ _ fin39
    · simp (disch:=omega) only [zA,zB,zC,zD,zF,zG,zH,↓reduceIte,hna2]
      exact hJ _ (Pre.refl _)
  rintro H75 hp75
  have ga75:=hp75.get ga23
  have hA75:=hA23.pre hp75
  refine joinV0.via (fun H'=>Pre H75 H') ?_ ?_
  · intro J hJ
    by_cases hq2:q=2
    · simp (disch:=omega) only [zA,zB,zC,zD,zF,zG,zH,↓reduceIte,ga75,hq2]
      have Q2:FQ α cd p e 2 blk:=hq2 ▸ Q
      have pw2:∀ j,j≤4→2 ^ j≤4096:=hq2 ▸ pw
      refine FZ.mono (evened_c Q2 hA75 hA.len (by omega) (by omega) (by omega)) ?_
      rintro _ H76 ⟨hp76,vv,rfl,hvv⟩
      have hVr:=lev_red (f:=vsum na) hA.len
      have hVl:=(lev_len (n:=na) hA.len).2
      have lev_e:∀ {e':Nat},Lst (lev (vsum na) A) na e'→0<(lev (vsum na) A).length→d≤e'∧e' % 2=0:=fun h1 h2=>by
        obtain⟨h3,v,_,hv,hw⟩:=lst_even hA hA0 hd h1 h2
        exact⟨h3,by rw [←hw];exact wt_par (Q2.ok 0) hv⟩
      obtain⟨V,hV⟩:∃ V,V=lev (vsum na) A:=⟨_,rfl⟩
      rw [←hV] at hvv hVr hVl lev_e
      clear hV
      have sv:=stB_three (H:=H76++[.cells [nv 0,nv 0,.slice none 0 0] 29 none false]) (bl:=H76.length) (x:=nv 2) (y:=nv na) (z:=vv) (c0:=nv 0) (c1:=nv 0) (c2:=.slice none 0 0) (e:=29) (op:=none) rfl rfl hvv.one
      rw [set_last] at sv
      have hp78:=Pre.new H76 [.cells [nv 2,nv na,vv] 29 none false]
      have gv78:(H76++[.cells [nv 2,nv na,vv] 29 none false])[H76.length]? = some (.cells [nv 2,nv na,vv] 29 none false):=by simp
      have hv78:=hvv.rowR.pre hp78
      have lv78:=len_of hv78
      simp (disch:=omega) only [zA,zB,zC,zD,zF,zG,zH,↓reduceIte,pc,sv,gv78,lv78]
      obtain⟨H78,hH78⟩:∃ H78,H78=H76++[.cells [nv 2,nv na,vv] 29 none false]:=⟨_,rfl⟩
      rw [←hH78] at hp78 gv78 hv78 ⊢
      clear hH78
      by_cases hV0:0<V.length
      · simp (disch:=omega) only [zA,zB,zC,zD,zF,zG,zH,↓reduceIte,hV0,gv78]
        refine FZ.mono (least_c Q2 hv78 hVr rfl (pw2 _ (by omega)) (by omega)) ?_
        rintro _ H80 ⟨hp80,e1,rfl,he1⟩
        have hl80:=lev_e he1 hV0
        have n4:¬e1<d:=by omega
        have gv80:=hp80.get gv78
        simp (disch:=omega) only [zA,zB,zC,zD,zF,zG,zH,↓reduceIte,n4,gv80,hV0]
        refine FZ.mono (least_c Q2 (hv78.pre hp80) hVr rfl (pw2 _ (by omega)) (by omega)) ?_
        rintro _ H86 ⟨hp86,e2,rfl,he2⟩
        have n5:=(lev_e he2 hV0).2
        simp (disch:=omega) only [zA,zB,zC,zD,zF,zG,zH,↓reduceIte,n5,hV0,beq_self_eq_true,Bool.not_true,Bool.not_false,bq_tf,bq_ft]
        exact hJ _ (hp76.trans (hp78.trans (hp80.trans hp86)))
      · simp (disch:=omega) only [zA,zB,zC,zD,zF,zG,zH,↓reduceIte,hV0]
        exact hJ _ (hp76.trans hp78)
    · simp (disch:=omega) only [zA,zB,zC,zD,zF,zG,zH,↓reduceIte,ga75,hq2]
      exact hJ _ (Pre.refl _)
  rintro H91 hp91
  have hp11_91:Pre H11 H91:=hp23.trans (hp75.trans hp91)
  have ga91:=hp11_91.get ga9
  have gb91:=hp11_91.get gb11
  have hA91:=hA11.pre hp11_91
  have hB91:=hB11.pre hp11_91
  simp (disch:=omega) only [zA,zB,zC,zD,zF,zG,zH,↓reduceIte,ga91,gb91]
  refine FZ.mono (summed_c Q hA91 hB91 hA.len hB.len (by omega) (by omega) hna1.1 hnb1.1 (by omega)) ?_
  rintro _ H92 ⟨hp92,vsm,rfl,hvsm⟩
  have hSm:=(Cd.sum (Cd.self hA) (Cd.self hB)).red
  have hSd:=sum_dim hA hB
  simp (disch:=omega) only [zA,zB,zC,zD,zF,zG,zH,↓reduceIte,pc]
  refine FZ.mono (least_c Q hvsm.rowR hSm hSd (pw _ (by omega)) (by omega)) ?_
  rintro _ H93 ⟨hp93,sd,rfl,hsd⟩
  have es:=lst_sum hA hA0 hd hB hB0 ho hsd
  have ga93:=(hp92.trans hp93).get ga91
  have gb93:=(hp92.trans hp93).get gb91
  simp (disch:=omega) only [zA,zB,zC,zD,zF,zG,zH,↓reduceIte,min2N,ga93,gb93,es,beq_self_eq_true,Bool.not_true]
  have hp91_93:=hp92.trans hp93
  have hA93:=hA91.pre hp91_93
  have hB93:=hB91.pre hp91_93
  apply mpH H93
  · intro hR
    by_cases hab:na=nb
    · have gb':H93[H9.length]? = some (.cells [nv q,nv na,vb] 29 none false):=by rw [hab];exact gb93
      have hB':LRed na B:=by rw [hab];exact hB
      have ho':Lst B na o:=by rw [hab];exact ho
      simp (disch:=omega) only [zA,zB,zC,zD,zF,zG,zH,↓reduceIte,ga93,gb',hab]
      rw [←hab]
      refine FZ.mono (doubled_c Q hA93 hB93 hA.len hB'.len (by omega) (by omega) hna1.1 (by omega)) ?_
      rintro _ H96 ⟨hp96,vdb,rfl,hvdb⟩
      have hDr:=(Cd.dbl (Cd.self hA) (Cd.self hB')).red
      have hDd:=dbl_dim hA hB'
      simp (disch:=omega) only [zA,zB,zC,zD,zF,zG,zH,↓reduceIte,pc]
      refine FZ.mono (least_c Q hvdb.rowR hDr hDd (pw _ (by omega)) (by omega)) ?_
      rintro _ H98 ⟨hp98,dd,rfl,hdd⟩
      have ed2:=lst_dbl hA hA0 hd hB' hB0 ho' hdd
      have ho2:o≤100000:=by
        obtain⟨_,⟨v,_,hv⟩,_⟩:=ho'.v hB0
        have:=vwt_le v na
        omega
      have hp93_98:=hp96.trans hp98
      have gX98:=(hp11_91.trans (hp91_93.trans hp93_98))
      simp (disch:=omega) only [zA,zB,zC,zD,zF,zG,zH,↓reduceIte,min2N,ed2,beq_self_eq_true,Bool.not_true]
      exact (hR _ hp93_98).out
    · simp (disch:=omega) only [zA,zB,zC,zD,zF,zG,zH,↓reduceIte,hab]
      exact (hR _ (Pre.refl _)).out
  intro H105 hp105
  have hX105:Pre HX H105:=hX11.trans (hp11_91.trans (hp91_93.trans hp105))
  have gx105:=hX105.get gx0
  have gy105:=hX105.get gx1
  simp (disch:=omega) only [zA,zB,zC,zD,zF,zG,zH,↓reduceIte,gx105]
  have hX105':=hX0.trans hX105
  clear hA11 hB11 hA21 hA23 hA75 hA91 hB91 hA93 hB93 hvsm hsd
  obtain⟨α',β,i1',i2',i3',i4',cda,cdb,p',e',p2,e2,blk',blk2,b0,b1,two,lift,Q4,Q2,BB,h2,hb0,hb1,hcc⟩:=Pf.fq42
  refine FZ.mono (outer_c Q4 (by omega) hus (hx.pre hX105')) ?_
  rintro _ H106 ⟨hp106,vc,C,rfl,hC,hC4,hvc⟩
  have Q4':FQ α' cda p' e' 4 blk':=Q4
  obtain⟨nc,hnc⟩:∃ nc,nc=1+n % 4:=⟨_,rfl⟩
  have hnc1:1≤nc∧nc≤4:=by omega
  rw [←hnc] at hC ⊢
  have sc:=stB_three (H:=H106++[.cells [nv 0,nv 0,.slice none 0 0] 29 none false]) (bl:=H106.length) (x:=nv 4) (y:=nv nc) (z:=vc) (c0:=nv 0) (c1:=nv 0) (c2:=.slice none 0 0) (e:=29) (op:=none) rfl rfl hvc.one
  rw [set_last] at sc
  have hp108:=Pre.new H106 [.cells [nv 4,nv nc,vc] 29 none false]
  have gy108:=(hp106.trans hp108).get gy105
  simp (disch:=omega) only [zA,zB,zC,zD,zF,zG,zH,↓reduceIte,sc,gy108]
  have gc108:(H106++[.cells [nv 4,nv nc,vc] 29 none false])[H106.length]? = some (.cells [nv 4,nv nc,vc] 29 none false):=by simp
  have hC108:=hvc.rowR.pre hp108
  obtain⟨H108,hH108⟩:∃ H108,H108=H106++[.cells [nv 4,nv nc,vc] 29 none false]:=⟨_,rfl⟩
  rw [←hH108] at hp108 gy108 gc108 hC108 ⊢
  clear hH108 sc
  have hX108:=hX105'.trans (hp106.trans hp108)
  refine FZ.mono (inner_c Q2 (by omega) hn2 hws (hy.pre hX108)) ?_
  rintro _ H109 ⟨hp109,vd,D,rfl,hD,hD2,hvd⟩
  obtain⟨nd',hnd⟩:∃ nd',nd'=2+n2 % 4:=⟨_,rfl⟩
  have hnd1:2≤nd'∧nd'≤5:=by omega
  rw [←hnd] at hD ⊢
  have sd:=stB_three (H:=H109++[.cells [nv 0,nv 0,.slice none 0 0] 29 none false]) (bl:=H109.length) (x:=nv 2) (y:=nv nd') (z:=vd) (c0:=nv 0) (c1:=nv 0) (c2:=.slice none 0 0) (e:=29) (op:=none) rfl rfl hvd.one
  rw [set_last] at sd
  have hp111:=Pre.new H109 [.cells [nv 2,nv nd',vd] 29 none false]
  have gc111:=(hp109.trans hp111).get gc108
  have gd111:(H109++[.cells [nv 2,nv nd',vd] 29 none false])[H109.length]? = some (.cells [nv 2,nv nd',vd] 29 none false):=by simp
  simp (disch:=omega) only [zA,zB,zC,zD,zF,zG,zH,↓reduceIte,sd,gc111,gd111]
  have hC111:=hC108.pre (hp109.trans hp111)
  have hD111:=hvd.rowR.pre hp111
  obtain⟨H111,hH111⟩:∃ H111,H111=H109++[.cells [nv 2,nv nd',vd] 29 none false]:=⟨_,rfl⟩
  rw [←hH111] at hp111 gc111 gd111 hC111 hD111 ⊢
  clear hH111 sd
  have hnm:nc*nd'≤20:=Nat.mul_le_mul hnc1.2 hnd1.2
  have hnm1:1≤nc*nd':=Nat.mul_pos hnc1.1 (by omega)
  have hnd0:0<nd':=by omega
  obtain⟨g',hg'⟩:∃ g',g'=D.getD 0 []:=⟨_,rfl⟩
  obtain⟨h',hh'⟩:∃ h',h'=D.getD 1 []:=⟨_,rfl⟩
  have hrep:∀ x:List α',(lrep b0 b1 nd' g' h' x).map cdb=repL nd' ((D.getD 0 []).map cdb) ((D.getD 1 []).map cdb) (x.map cda):=fun x=>by
    rw [←hg',←hh'];exact lrep_cd hb0 hb1 (Q2.ok 0).zero hcc nd' g' h' x
  refine FZ.mono (concat26_c Q4' Q2 h2 (lrep b0 b1 nd' g' h') hrep hC111 hD111 hC.len hD.len hD2 (by omega) hnc1.1 hnd0 (by omega)) ?_
  rintro _ H112 ⟨hp112,ve',rfl,hve'⟩
  have hcl:∀ y∈(lcat two C).map (lrep b0 b1 nd' g' h'),y.length=nc*nd':=by
    intro y hy
    obtain⟨x,hx,rfl⟩:=List.mem_map.1 hy
    rw [lrep_len]
    rcases List.mem_append.1 hx with h|h
    · rw [hC.len x h]
    · obtain⟨z,hz,rfl⟩:=List.mem_map.1 h;rw [List.length_map,hC.len z hz]
  obtain⟨hG,_,_⟩:=lreduce_red hcl
  have hGd:=lcat_dim BB hD hD2 hg' hh' hnd0 hC
  have lcat_e:∀ {d o s:Nat},0<C.length→Lst C nc d→Lst D nd' o→Lst (lreduce ((lcat two C).map (lrep b0 b1 nd' g' h'))) (nc*nd') s→d*o≤s:=fun h h1 h3 h4=>lst_cat BB hD hD2 hg' hh' hnd0 hC h h1 h3 h4
  obtain⟨G,hGe⟩:∃ G,G=lreduce ((lcat two C).map (lrep b0 b1 nd' g' h')):=⟨_,rfl⟩
  rw [←hGe] at hve' hG hGd lcat_e
  clear hGe
  have sg:=stB_three (H:=H112++[.cells [nv 0,nv 0,.slice none 0 0] 29 none false]) (bl:=H112.length) (x:=nv 2) (y:=nv (nc*nd')) (z:=ve') (c0:=nv 0) (c1:=nv 0) (c2:=.slice none 0 0) (e:=29) (op:=none) rfl rfl hve'.one
  rw [set_last] at sg
  have hp114:=Pre.new H112 [.cells [nv 2,nv (nc*nd'),ve'] 29 none false]
  have gg114:(H112++[.cells [nv 2,nv (nc*nd'),ve'] 29 none false])[H112.length]? = some (.cells [nv 2,nv (nc*nd'),ve'] 29 none false):=by simp
  have hG114:=hve'.rowR.pre hp114
  have gc114:=(hp112.trans hp114).get gc111
  have gd114:=(hp112.trans hp114).get gd111
  have hC114:=hC111.pre (hp112.trans hp114)
  have hD114:=hD111.pre (hp112.trans hp114)
  simp (disch:=omega) only [zA,zB,zC,zD,zF,zG,zH,↓reduceIte,pc,sg]
  obtain⟨H114,hH114⟩:∃ H114,H114=H112++[.cells [nv 2,nv (nc*nd'),ve'] 29 none false]:=⟨_,rfl⟩
  rw [←hH114] at hp114 gg114 hG114 gc114 gd114 hC114 hD114 ⊢
  clear hH114 sg
  have lc114:=len_of hC114
  have lg114:=len_of hG114
  have fin:=hX108.trans (hp109.trans (hp111.trans (hp112.trans hp114)))
  by_cases hC0:C.length=0
  · have hG0:G.length=0:=by omega
    simp (disch:=omega) only [zA,zB,zC,zD,zF,zG,zH,↓reduceIte,gc114,gg114,lc114,lg114,hC0,hG0]
    exact fin
  · have hC1:0<C.length:=by omega
    simp (disch:=omega) only [zA,zB,zC,zD,zF,zG,zH,↓reduceIte,gc114,gg114,gd114,lc114,lg114,hC0,hC1]
    have pw2:∀ j,j≤8→2 ^ j≤4096:=fun j hj=>Nat.le_trans (Nat.pow_le_pow_right (by decide) hj) (by decide)
    have pw4:∀ j,j≤4→4 ^ j≤4096:=fun j hj=>Nat.le_trans (Nat.pow_le_pow_right (by decide) hj) (by decide)
    refine FZ.mono (least_c Q2 hG114 hG rfl (pw2 _ (by omega)) (by omega)) ?_
    rintro _ H115 ⟨hp115,s1,rfl,hs1⟩
    have gc115:=hp115.get gc114
    have gd115:=hp115.get gd114
    simp (disch:=omega) only [zA,zB,zC,zD,zF,zG,zH,↓reduceIte,gc115,gd115]
    refine FZ.mono (least_c Q4' (hC114.pre hp115) hC rfl (pw4 _ (by omega)) (by omega)) ?_
    rintro _ H116 ⟨hp116,s2,rfl,hs2⟩
    have gd116:=hp116.get gd115
    simp (disch:=omega) only [zA,zB,zC,zD,zF,zG,zH,Nat.reduceEqDiff,Nat.reduceLT,Nat.reduceLeDiff,↓reduceIte,gd116]
    refine FZ.mono (least_c Q2 (hD114.pre (hp115.trans hp116)) hD rfl (pw2 _ (by omega)) (by omega)) ?_
    rintro _ H117 ⟨hp117,s3,rfl,hs3⟩
    have hle:=lcat_e hC1 hs2 hs3 hs1
    have b2:s2≤4:=by
      obtain⟨_,⟨v,_,hv⟩,_⟩:=hs2.v hC1
      have:=vwt_le v nc
      omega
    have b3:s3≤5:=by
      obtain⟨_,⟨v,_,hv⟩,_⟩:=hs3.v (by omega)
      have:=vwt_le v nd'
      omega
    have b23:s2*s3≤20:=Nat.mul_le_mul b2 b3
    have hge:s1≥s2*s3:=hle
    simp (disch:=omega) only [zA,zB,zC,zD,zF,zG,zH,↓reduceIte,hge,hle,Bool.not_true,Bool.not_false,beq_self_eq_true,bq_tf,bq_ft]
    exact fin.trans (hp115.trans (hp116.trans hp117))
end Go.Sim
