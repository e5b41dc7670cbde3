/- Part of the proof: MpG. -/
import Derived.Test.YtbfpepbfpebmmaaGreatMMatMpF
set_option linter.all false
namespace Go.Sim
open Go Go.Proofs
section
variable {α:Type} [Fl α] [DecidableEq α] {cd:α→Nat} {p e b c q:Nat} {blk:AB} {H:AH}
def mrow (us:List Nat) (q N i t:Nat):Nat:=if t=i then 1 else if us.length=0 then 0 else us.getD ((i*N+t) % us.length) 0 % q
theorem mrow_lt {us:List Nat} {q N i t:Nat} (hq:2≤q):mrow us q N i t<q:=by
  unfold mrow
  split
  · omega
  · split
    · omega
    · exact Nat.mod_lt _ (by omega)
def qk7 {α:Type} (dec:Nat→α) (us:List Nat) (q N kk:Nat):List (List α):=(List.range kk).map fun i=>(List.range N).map fun t=>dec (mrow us q N i t)
theorem evs_dec {dec:Nat→α} {n:Nat} {f:Nat→Nat} (hd:∀ t,t<n→cd (dec (f t))=f t):evs cd ((List.range n).map fun t=>dec (f t))=tab n fun t=>nv (f t):=by
  unfold evs tab
  rw [List.map_map]
  exact List.map_congr_left fun t ht=>by show nv (cd (dec (f t)))=_;rw [hd t (List.mem_range.1 ht)]
theorem made4_c {j:Nat} (Q:FQ α cd p e (Pf.ordM j) blk) {dec:Nat→α} (hd:∀ d,d<Pf.ordM j→cd (dec d)=d) {x:Value} {us:List Nat} {k n m:Nat} (hk:k % 6=j) (hm:m<256) (hus:∀ u∈us,u<256) (hx:Row H x (us.map bv)) :
    FN Tryz.prog 12 [rawv k n m x] H (fun r H'=>Pre H H'∧∃ w,r=codv (Pf.ordM j) (1+n % 10) w∧Lw.RowLo H.length H' w (evr cd (qbk (qk7 dec us (Pf.ordM j) (1+n % 10) (m % (mostM j+1)))))):=by
  refine g12_of ?_
  unfold g12
  have hj:j<6:=by omega
  obtain⟨hm8,hq8,hq2⟩:=most_le hj
  obtain⟨q,hq⟩:∃ q,q=Pf.ordM j:=⟨_,rfl⟩
  obtain⟨mo,hmo⟩:∃ mo,mo=mostM j:=⟨_,rfl⟩
  rw [←hq] at Q hq8 hq2 hd ⊢
  rw [←hmo] at hm8 ⊢
  have r6:xbin .rem 0 (bv k) (.int .u8 6)=some (bv j):=by rw [←hk];exact rem8 (m:=6) (by decide)
  have r10:xbin .rem 0 (bv n) (.int .u8 10)=some (bv (n % 10)):=rem8 (m:=10) (by decide)
  have c1:qbc (.conv .i64) [bv (n % 10)]=some (nv (n % 10)):=qcx (by omega)
  have c3:qbc (.conv .i64) [bv m]=some (nv m):=qcx (by omega)
  have hxo:=hx.one
  have hxc:=hx.cells
  obtain⟨N,hN⟩:∃ N,N=1+n % 10:=⟨_,rfl⟩
  have hN10:N≤10:=by omega
  have hN1:1≤N:=by omega
  have l6:=ld6 hj
  have l6':=ld6' hj
  rw [←hq] at l6
  rw [←hmo] at l6'
  simp (disch:=(first|omega|(simp only [qbj]<;>omega)|(simp only [qbg];done)|rfl)) only [zA,zB,zC,zD,zF,zG,zH,Nat.reduceEqDiff,Nat.reduceLT,Nat.reduceLeDiff,↓reduceIte,r6,r10,c1,c3,ix6,hj,l6,l6']
  rw [←hN]
  obtain⟨kk,hkk⟩:∃ kk,kk=m % (mo+1):=⟨_,rfl⟩
  have hkk8:kk≤8:=by have:=Nat.mod_lt m (show 0<mo+1 by omega);omega
  have hkm:kk≤mo:=by rw [hkk];exact Nat.le_of_lt_succ (Nat.mod_lt _ (Nat.succ_pos _))
  rw [←hkk]
  have hX0:=Pre.new H [.cells [bv k,bv n,bv m,x] 24 none false,.cells [nv 0,nv 0,.slice none 0 0] 29 none false,.cells [nv 2,nv 3,nv 4,nv 5,nv 7,nv 8] 3 none false,.cells [nv 8,nv 5,nv 4,nv 3,nv 2,nv 2] 3 none false]
  obtain⟨HX,hHX⟩:∃ HX,HX=H++[.cells [bv k,bv n,bv m,x] 24 none false,.cells [nv 0,nv 0,.slice none 0 0] 29 none false,.cells [nv 2,nv 3,nv 4,nv 5,nv 7,nv 8] 3 none false,.cells [nv 8,nv 5,nv 4,nv 3,nv 2,nv 2] 3 none false]:=⟨_,rfl⟩
  have hXl:HX.length=H.length+4:=by rw [hHX];simp
  have gx:HX[H.length]? = some (.cells [bv k,bv n,bv m,x] 24 none false):=by rw [hHX];simp
  have gc:HX[H.length+1]? = some (.cells [nv 0,nv 0,.slice none 0 0] 29 none false):=by rw [hHX];simp
  have hsp:H++[.cells [bv k,bv n,bv m,x] 24 none false,.cells [nv 0,nv 0,.slice none 0 0] 29 none false,.cells [nv 2,nv 3,nv 4,nv 5,nv 7,nv 8] 3 none false,.cells [nv 8,nv 5,nv 4,nv 3,nv 2,nv 2] 3 none false,.cells [] 31 none false]=HX++[.cells [] 31 none false]:=by rw [hHX];simp
  have hsl:H.length+4=HX.length:=hXl.symm
  rw [←hHX] at hX0
  rw [hsp]
  refine loopV2.nat kk (fun i out i' H'=>i'=nv i∧Pre HX H'∧AccR HX H' out (evr cd (qk7 dec us q N i)) 31) ⟨rfl,Pre.new _ _,?_⟩ ?_ ?_
  · have:=AccR.new (H0:=HX) (H:=HX) (Nat.le_refl _) (e:=31) (Y:=[])
    rw [hXl] at this
    exact this
  · rintro i out i' H6 hi ⟨rfl,hp6,ho⟩ J hJ
    obtain⟨f,hf⟩:∃ f:Nat→Nat,f=fun t=>if us.length=0 then 0 else us.getD ((i*N+t) % us.length) 0 % q:=⟨_,rfl⟩
    simp (disch:=omega) only [zA,zB,zC,zD,zF,zG,zH,↓reduceIte,hi]
    refine FZ.use (qkj (by omega)) ?_
    have h7:=Pre.new H6 [.cells ((List.replicate N 0).map nv) 3 none false]
    have hiN:i*N≤80:=Nat.mul_le_mul (show i≤8 by omega) hN10
    refine loopV1.nat N (fun jj j' H'=>j'=nv jj∧Pre H6 H'∧H'[H6.length]? = some (.cells (tab N fun t=>nv (if t<jj then f t else 0)) 3 none false)) ⟨rfl,h7,?_⟩ ?_ ?_
    · rw [qhn];simp
    · rintro jj j' H8 hjj ⟨rfl,hp8,hb8⟩ J2 hJ2
      have hpp:=hp6.trans hp8
      have gx8:=hpp.get gx
      have hv8:=hx.pre (hX0.trans hpp)
      have vl:=hv8.len
      rw [List.length_map] at vl
      simp (disch:=omega) only [zA,zB,zC,zD,zF,zG,zH,↓reduceIte,hjj]
      refine joinV0.via (fun H'=>Pre H6 H'∧H'[H6.length]? = some (.cells (tab N fun t=>nv (if t<jj+1 then f t else 0)) 3 none false)) ?_ ?_
      · intro J3 hJ3
        by_cases h0:us.length=0
        · have h0':¬0<us.length:=by omega
          simp (disch:=omega) only [zA,zB,zC,zD,zF,zG,zH,↓reduceIte,gx8,vl,h0']
          refine hJ3 _ ⟨hp8,?_⟩
          rw [hb8]
          congr 2
          exact qkw fun t ht=>by rw [hf];simp [h0]
        · have hpos:0<us.length:=by omega
          obtain⟨t,ht⟩:∃ t,t=(i*N+jj) % us.length:=⟨_,rfl⟩
          have htl:t<us.length:=by rw [ht];exact Nat.mod_lt _ hpos
          have vi:=hv8.ix (k:=t) (by rw [List.length_map];exact htl)
          have ld:=bv_ld hv8 htl
          have hu:=getD_lt hus htl
          have cv:qbc (.conv .i64) [bv (us.getD t 0)]=some (nv (us.getD t 0)):=qcx (by omega)
          have hq0:0<q:=by omega
          have hft:f jj=us.getD t 0 % q:=by rw [hf,ht];simp only [];rw [if_neg h0]
          have st:=qnq (k:=jj) (v:=nv (us.getD t 0 % q)) (g:=fun t=>nv (if t<jj+1 then f t else 0)) hb8 hjj rfl rfl (by rw [if_pos (by omega),hft]) (fun s hs hne=>by
            by_cases h:s<jj
            · rw [if_pos h,if_pos (by omega)]
            · rw [if_neg h,if_neg (by omega)])
          rw [ht] at vi ld cv st
          simp (disch:=omega) only [zA,zB,zC,zD,zF,zG,zH,↓reduceIte,gx8,vl,hpos,vi,ld,cv,hq0,hjj,hb8,st]
          exact hJ3 _ ⟨hp8.set (Nat.le_refl _) _,List.getElem?_set_self (qbx hb8)⟩
      · rintro H10 ⟨hp10,hb10⟩
        simp (disch:=omega) only [zA,zB,zC,zD,zF,zG,zH,↓reduceIte]
        exact hJ2 _ _ ⟨rfl,hp10,hb10⟩
    · rintro j' H8 ⟨rfl,hp8,hb8⟩ J2
      simp (disch:=omega) only [zA,zB,zC,zD,zF,zG,zH,↓reduceIte]
      have hb8:H8[H6.length]? = some (.cells (tab N fun t=>nv (f t)) 3 none false):=by
        rw [hb8];congr 2;exact qkw fun t ht=>by rw [if_pos ht]
      refine joinV0.via (fun H'=>Pre H6 H'∧H'[H6.length]? = some (.cells (tab N fun t=>nv (mrow us q N i t)) 3 none false)) ?_ ?_
      · intro J3 hJ3
        by_cases hiN2:i<N
        · have st:=qnq (k:=i) (v:=nv 1) (g:=fun t=>nv (mrow us q N i t)) hb8 hiN2 rfl rfl (by unfold mrow;rw [if_pos rfl]) (fun s hs hne=>by unfold mrow;rw [if_neg hne,hf])
          simp (disch:=omega) only [zA,zB,zC,zD,zF,zG,zH,↓reduceIte,hiN2,hb8,st]
          exact hJ3 _ ⟨hp8.set (Nat.le_refl _) _,List.getElem?_set_self (qbx hb8)⟩
        · simp (disch:=omega) only [zA,zB,zC,zD,zF,zG,zH,↓reduceIte,hiN2]
          refine hJ3 _ ⟨hp8,?_⟩
          rw [hb8]
          congr 2
          exact qkw fun t ht=>by unfold mrow;rw [if_neg (by omega),hf]
      · rintro H10 ⟨hp10,hb10⟩
        have hpp:=hp6.trans hp10
        have er:evs cd ((List.range N).map fun t=>dec (mrow us q N i t))=tab N fun t=>nv (mrow us q N i t):=evs_dec fun t _=>hd _ (mrow_lt hq2)
        rw [←er] at hb10
        have hr:Row H10 (.slice (some ⟨H6.length,0,none⟩) N N) (evs cd ((List.range N).map fun t=>dec (mrow us q N i t))):=Row.of hb10 (by simp) (Nat.le_refl _)
        have hml:(qk7 dec us q N i).length=i:=by simp [qk7]
        obtain⟨out',H12,e1,ho',hp',_⟩:=(ho.pre hp10).app1 (by_:=24) hpp.len hr (qb3 _) (by rw [List.length_map,hml];omega) (by rw [List.length_map,hml];omega) (e2:=31)
        simp (disch:=(first|omega|(simp only [qbj]<;>omega)|(simp only [qbg];done)|rfl)) only [zA,zB,zC,zD,zF,zG,zH,Nat.reduceEqDiff,Nat.reduceLT,Nat.reduceLeDiff,↓reduceIte,e1]
        refine hJ _ _ _ ⟨rfl,hp' hpp,?_⟩
        have em:qk7 dec us q N (i+1)=qk7 dec us q N i++[(List.range N).map fun t=>dec (mrow us q N i t)]:=by
          unfold qk7;rw [List.range_succ,List.map_append];rfl
        rw [em]
        simpa [evr] using ho'
  · rintro out i' H6 ⟨rfl,hp6,ho⟩ J
    have hxw:∀ x∈qk7 dec us q N kk,x.length=N:=fun x hx=>by obtain⟨i,_,rfl⟩:=List.mem_map.1 hx;simp
    have hxl:(qk7 dec us q N kk).length=kk:=by simp [qk7]
    simp (disch:=omega) only [zA,zB,zC,zD,zF,zG,zH,↓reduceIte]
    refine FZ.mono (over_c Q) ?_
    rintro _ H15 ⟨hp15,b,rfl,hb⟩
    have hR:=ho.rowR.pre hp15
    refine FZ.mono (qk4 (Q.ok b) hb hR hxw (by omega) (by omega) hN1) ?_
    rintro w H16 ⟨hp16,hw⟩
    have hpp:=hp6.trans (hp15.trans hp16)
    have gc16:=hpp.get gc
    have s9:=qbs (H:=H16) (bl:=H.length+1) (x:=nv q) (y:=nv N) (z:=w) (c0:=nv 0) (c1:=nv 0) (c2:=.slice none 0 0) (e:=29) (op:=none) rfl rfl hw.one
    have g9:(H16.set (H.length+1) (AB.cells [nv q,nv N,w] 29 none false))[H.length+1]? = some (.cells [nv q,nv N,w] 29 none false):=List.getElem?_set_self (qbx gc16)
    have hf:=hw.fill
    simp (disch:=(first|omega|(simp only [qbj]<;>omega)|(simp only [qbg];done)|rfl)) only [zA,zB,zC,zD,zF,zG,zH,Nat.reduceEqDiff,Nat.reduceLT,Nat.reduceLeDiff,↓reduceIte,hf,gc16,s9,g9]
    have hl15:=(hp6.trans hp15).len
    exact⟨(hX0.trans hpp).set (by omega) _,w,rfl,(hw.setLow (by omega)).mono (by omega)⟩
theorem qp6 (Q:FQ α cd p e (Pf.ordM 2) blk) {dec:Nat→α} (hd:∀ d,d<4→cd (dec d)=d) {x:Value} {us:List Nat} {k n m:Nat} (hm:m<256) (hus:∀ u∈us,u<256) (hx:Row H x (us.map bv)) :
    FN Tryz.prog 32 [rawv k n m x] H (fun r H'=>Pre H H'∧∃ w,r=codv 4 (1+n % 4) w∧Lw.RowLo H.length H' w (evr cd (qbk (qk7 dec us 4 (1+n % 4) (m % 5))))):=by
  refine g32_of ?_
  unfold g32
  have hxo:=hx.one
  have hxc:=hx.cells
  have r4:xbin .rem 0 (bv n) (.int .u8 4)=some (bv (n % 4)):=rem8 (m:=4) (by decide)
  have s1:=qfc (c:=[bv k,bv n,bv m,x]) (e:=24) (op:=none) (H:=H++[.cells [bv k,bv n,bv m,x] 24 none false,.cells [nv 0,nv 0,.slice none 0 0] 29 none false]) (bl:=H.length) (o:=0) (v:=.int .u8 2) rfl rfl (by simp)
  have e1:(H++[AB.cells [bv k,bv n,bv m,x] 24 none false,AB.cells [nv 0,nv 0,.slice none 0 0] 29 none false]).set H.length (AB.cells ([bv k,bv n,bv m,x].set 0 (.int .u8 2)) 24 none false)=H++[AB.cells [bv 2,bv n,bv m,x] 24 none false,AB.cells [nv 0,nv 0,.slice none 0 0] 29 none false]:=by
    rw [List.set_append_right _ _ (by omega)];simp
  rw [e1] at s1
  have s2:=qfc (c:=[bv 2,bv n,bv m,x]) (e:=24) (op:=none) (H:=H++[.cells [bv 2,bv n,bv m,x] 24 none false,.cells [nv 0,nv 0,.slice none 0 0] 29 none false]) (bl:=H.length) (o:=1) (v:=bv (n % 4)) rfl rfl (by simp)
  have e2:(H++[AB.cells [bv 2,bv n,bv m,x] 24 none false,AB.cells [nv 0,nv 0,.slice none 0 0] 29 none false]).set H.length (AB.cells ([bv 2,bv n,bv m,x].set 1 (bv (n % 4))) 24 none false)=H++[AB.cells [bv 2,bv (n % 4),bv m,x] 24 none false,AB.cells [nv 0,nv 0,.slice none 0 0] 29 none false]:=by
    rw [List.set_append_right _ _ (by omega)];simp
  rw [e2] at s2
  simp (disch:=omega) only [zA,zB,zC,zD,zF,zG,zH,↓reduceIte,hxc,s1,r4,s2]
  have hX:=Pre.new H [.cells [bv 2,bv (n % 4),bv m,x] 24 none false,.cells [nv 0,nv 0,.slice none 0 0] 29 none false]
  refine FZ.mono (made4_c Q hd (k:=2) (n:=n % 4) rfl hm hus (hx.pre hX)) ?_
  rintro _ H5 ⟨hp5,w,rfl,hw⟩
  have en:1+n % 4 % 10=1+n % 4:=by omega
  have eq4:Pf.ordM 2=4:=rfl
  have em4:mostM 2=4:=rfl
  rw [en,eq4,em4] at hw
  rw [en,eq4]
  have gc:H5[H.length+1]? = some (.cells [nv 0,nv 0,.slice none 0 0] 29 none false):=hp5.get (by simp)
  have s9:=qbs (H:=H5) (bl:=H.length+1) (x:=nv 4) (y:=nv (1+n % 4)) (z:=w) (c0:=nv 0) (c1:=nv 0) (c2:=.slice none 0 0) (e:=29) (op:=none) rfl rfl hw.one
  have g9:(H5.set (H.length+1) (.cells [nv 4,nv (1+n % 4),w] 29 none false))[H.length+1]? = some (.cells [nv 4,nv (1+n % 4),w] 29 none false):=List.getElem?_set_self (qbx gc)
  simp (disch:=omega) only [zA,zB,zC,zD,zF,zG,zH,↓reduceIte,gc,s9,g9]
  exact⟨(hX.trans hp5).set (by omega) _,w,rfl,(hw.setLow (by simp)).mono (by simp)⟩
def gbit (us:List Nat) (t:Nat):Nat:=if t<us.length then us.getD t 0 % 2 else 0
theorem gbit_lt (us:List Nat) (t:Nat):gbit us t<2:=by
  unfold gbit;split
  · exact Nat.mod_lt _ (by omega)
  · omega
theorem given4_c {dec:Nat→α} (hd:∀ d,d<2→cd (dec d)=d) {v:Value} {us:List Nat} {n:Nat} (hus:∀ u∈us,u<256) (hv:Row H v (us.map bv)) (hn:n≤1000) :
    FN Tryz.prog 79 [nv 2,nv n,v] H (fun r H'=>r=.slice (some ⟨H.length,0,none⟩) n n∧H'=H++[.cells (evs cd ((List.range n).map fun t=>dec (gbit us t))) 3 none false]):=by
  have er:evs cd ((List.range n).map fun t=>dec (gbit us t))=tab n fun t=>nv (gbit us t):=evs_dec fun t _=>hd _ (gbit_lt us t)
  rw [er]
  refine g79_of ?_
  unfold g79
  refine FZ.use (qkj hn) ?_
  refine loopV1.nat n (fun i j H'=>j=nv i∧H'=H++[.cells (tab n fun t=>nv (if t<i then gbit us t else 0)) 3 none false]) ⟨rfl,by rw [qhn];simp⟩ ?_ ?_
  · rintro i j _ hi ⟨rfl,rfl⟩ J hJ
    have hp:=Pre.new H [.cells (tab n fun t=>nv (if t<i then gbit us t else 0)) 3 none false]
    have hv8:=hv.pre hp
    have vl:=hv8.len
    rw [List.length_map] at vl
    by_cases hil:i<us.length
    · have vi:=hv8.ix (k:=i) (by rw [List.length_map];exact hil)
      have ld:=bv_ld hv8 hil
      have hu:=getD_lt hus hil
      have cv:qbc (.conv .i64) [bv (us.getD i 0)]=some (nv (us.getD i 0)):=qcx (by omega)
      have h2:¬(2:Nat)=0:=by decide
      have st:=qnq (H:=H++[.cells (tab n fun t=>nv (if t<i then gbit us t else 0)) 3 none false]) (bl:=H.length) (k:=i) (v:=nv (us.getD i 0 % 2)) (f:=fun t=>nv (if t<i then gbit us t else 0)) (g:=fun t=>nv (if t<i+1 then gbit us t else 0)) (et:=3) (op:=none) (by simp) hi rfl rfl (by rw [if_pos (by omega)];unfold gbit;rw [if_pos hil]) (fun s hs hne=>by
        by_cases h:s<i
        · rw [if_pos h,if_pos (by omega)]
        · rw [if_neg h,if_neg (by omega)])
      rw [qb2] at st
      simp (disch:=omega) only [zA,zB,zC,zD,zF,zG,zH,↓reduceIte,hi,vl,hil,vi,ld,cv,h2,st]
      exact hJ _ _ ⟨rfl,rfl⟩
    · simp (disch:=omega) only [zA,zB,zC,zD,zF,zG,zH,↓reduceIte,hi,vl,hil]
      congr 3
      exact qkw fun t ht=>by
        by_cases h:t<i
        · rw [if_pos h]
        · rw [if_neg h];unfold gbit;rw [if_neg (by omega)]
  · rintro j _ ⟨rfl,rfl⟩ J
    simp (disch:=omega) only [zA,zB,zC,zD,zF,zG,zH,↓reduceIte]
    congr 3
    exact qkw fun t ht=>by rw [if_pos ht]
theorem qr5 {q n:Nat} {w:Value} (h:isSl w=true):qbr [nv 0,nv 0,.slice none 0 0,nv 0] [(0,3)] [codv q n w]=some [nv q,nv n,w,nv 0]:=by
  cases w<;>simp [isSl] at h
  rfl
theorem qkz (Q:FQ α cd p e q blk) {v:Value} {n:Nat} {M:List (List α)} (hv:RowR H v (evr cd M)) (hl:∀ x∈M,x.length=n) (hM:M.length≤400) (hn:n≤1000) (hn0:0<n) :
    FN Tryz.prog 67 [nv q,nv n,v] H (RetG cd q n (qbk M) H):=by
  refine g67_of ?_
  unfold g67
  have hX:=Pre.new H [.cells [nv 0,nv 0,.slice none 0 0,nv 0] 37 none false]
  refine FZ.mono (over_c Q) ?_
  rintro _ H2 ⟨hp2,b,rfl,hb⟩
  refine FZ.mono (qk4 (Q.ok b) hb (hv.pre (hX.trans hp2)) hl hM hn hn0) ?_
  rintro w H3 ⟨hp3,hw⟩
  have hpp:=hp2.trans hp3
  have g3:H3[H.length]? = some (.cells [nv 0,nv 0,.slice none 0 0,nv 0] 37 none false):=hpp.get (by simp)
  have f1:=codv_fill (q:=q) (n:=n) hw.isSl
  have f2:=qr5 (q:=q) (n:=n) hw.isSl
  have s6:=qcj (H:=H3) (bl:=H.length) (x:=nv q) (y:=nv n) (z:=w) (u:=nv 0) (c0:=nv 0) (c1:=nv 0) (c2:=.slice none 0 0) (c3:=nv 0) (e:=37) (op:=none) rfl rfl hw.one rfl
  have g6:(H3.set H.length (.cells [nv q,nv n,w,nv 0] 37 none false))[H.length]? = some (.cells [nv q,nv n,w,nv 0] 37 none false):=List.getElem?_set_self (qbx g3)
  simp (disch:=omega) only [zA,zB,zC,zD,zF,zG,zH,↓reduceIte,f1,f2,g3,s6,g6]
  have hl2:=hp2.len
  simp only [List.length_append,List.length_cons,List.length_nil] at hl2
  exact⟨(hX.trans hpp).set (Nat.le_refl _) _,w,rfl,(hw.setLow (by omega)).mono (by omega)⟩
theorem qg4 {H:AH} {bl:Nat} {v w:Value} {xs ys:List α} {n:Nat} (hb:H[bl]? = some (.cells [v,w] 31 none false)) (hv:Row H v (evs cd xs)) (hw:Row H w (evs cd ys)):RowR H (.slice (some ⟨bl,0,none⟩) 2 2) (evr cd [xs,ys]):=by
  refine⟨[v,w],(Row.of hb rfl (Nat.le_refl _)).x (by simp),⟨rfl,fun k hk=>?_⟩⟩
  simp at hk
  rcases k with _|_|k
  · exact hv
  · exact hw
  · omega
theorem inner_ind {N:Nat} {xa:List α} (hl:xa.length=N) (hN:2≤N) (h0:xa.getD 0 Fl.zero=Fl.one):(qbk [xa,qdg N 1]).length=2:=by
  have hul:(qdg (α:=α) N 1).length=N:=by simp [qdg]
  have hw:∀ x∈[xa,qdg N 1],x.length=N:=by
    intro x hx
    simp only [List.mem_cons,List.not_mem_nil,or_false] at hx
    rcases hx with rfl|rfl
    · exact hl
    · exact hul
  rw [qk9 hw]
  · rfl
  · intro k hk hs
    simp at hk
    rcases k with _|_|k
    · have:toV xa=vz:=by
        refine LSpan.sub (L:=([xa,qdg N 1]:List (List α)).take 0) (S:=fun u=>u=vz) rfl ?_ ?_ (by simp) hs
        · rintro _ _ rfl rfl;exact qc3 _
        · rintro c _ rfl;exact vs_vz c
      have:=congrFun this 0
      exact qf9 (h0.symm.trans this)
    · have key:∃ c,toV (qdg (α:=α) N 1)=vs c (toV xa):=by
        refine LSpan.sub (L:=([xa,qdg N 1]:List (List α)).take 1) (S:=fun u=>∃ c,u=vs c (toV xa)) ⟨Fl.zero,(qgg _).symm⟩ ?_ ?_ ?_ hs
        · rintro _ _ ⟨c,rfl⟩ ⟨d,rfl⟩;exact⟨Fl.add c d,(add_vs c d _).symm⟩
        · rintro a _ ⟨c,rfl⟩;exact⟨Fl.mul a c,vs_vs a c _⟩
        · intro x hx
          simp at hx
          rw [hx];exact⟨Fl.one,(vs_one _).symm⟩
      obtain⟨c,hc⟩:=key
      rw [toV_unit (by omega)] at hc
      have e0:=congrFun hc 0
      have e1:=congrFun hc 1
      have hx0:toV xa 0=Fl.one:=h0
      change (if (0:Nat)=1 then Fl.one else Fl.zero)=Fl.mul c (toV xa 0) at e0
      rw [if_neg (by omega),hx0,Fl.mul_one] at e0
      change (if (1:Nat)=1 then Fl.one else Fl.zero)=Fl.mul c (toV xa 1) at e1
      rw [if_pos rfl,←e0,Fl.zero_mul] at e1
      exact qf9 e1
    · omega
def innA (dec:Nat→α) (us:List Nat) (N:Nat):List α:=((List.range N).map fun t=>dec (gbit us t)).set 0 Fl.one
def innB (dec:Nat→α) (us:List Nat) (N i1:Nat):List α:=if 0<us.length then (qdg N i1).set (N-1) (dec (us.getD 0 0 / 2 % 2)) else qdg N i1
def innM (dec:Nat→α) (us:List Nat) (N m:Nat):List (List α):=if (qbk [innA dec us N,innB dec us N (1+m % (N-1))]).length<2 then qbk [innA dec us N,qdg N 1] else qbk [innA dec us N,innB dec us N (1+m % (N-1))]
theorem qqb (Q:FQ α cd p e 2 blk) {dec:Nat→α} (hd:∀ d,d<2→cd (dec d)=d) {x:Value} {us:List Nat} {k n m:Nat} (hm:m<256) (hn:n<256) (hus:∀ u∈us,u<256) (hx:Row H x (us.map bv)) :
    FN Tryz.prog 33 [rawv k n m x] H (fun r H'=>Pre H H'∧∃ w,r=codv 2 (2+n % 4) w∧LRed (2+n % 4) (innM dec us (2+n % 4) m)∧(innM dec us (2+n % 4) m).length=2∧Lw.RowLo H.length H' w (evr cd (innM dec us (2+n % 4) m))):=by
  refine g33_of ?_
  unfold g33
  have hxo:=hx.one
  have hxc:=hx.cells
  have F:=Q.ok 0
  obtain⟨N,hN⟩:∃ N,N=2+n % 4:=⟨_,rfl⟩
  have hN2:2≤N∧N≤5:=by omega
  have c1:qbc (.conv .i64) [bv n]=some (nv n):=qcx (by omega)
  have h4:¬(4:Nat)=0:=by decide
  simp (disch:=omega) only [zA,zB,zC,zD,zF,zG,zH,↓reduceIte,hxc,c1,h4]
  rw [←hN]
  have hX:=Pre.new H [.cells [bv k,bv n,bv m,x] 24 none false,.cells [nv 0,nv 0,.slice none 0 0] 29 none false]
  obtain⟨HX,hHX⟩:∃ HX,HX=H++[.cells [bv k,bv n,bv m,x] 24 none false,.cells [nv 0,nv 0,.slice none 0 0] 29 none false]:=⟨_,rfl⟩
  have gx:HX[H.length]? = some (.cells [bv k,bv n,bv m,x] 24 none false):=by rw [hHX];simp
  have gr:HX[H.length+1]? = some (.cells [nv 0,nv 0,.slice none 0 0] 29 none false):=by rw [hHX];simp
  have hXl:HX.length=H.length+2:=by rw [hHX];simp
  rw [←hHX] at hX ⊢
  clear hHX
  refine FZ.mono (given4_c hd hus (hx.pre hX) (by omega)) ?_
  rintro _ _ ⟨rfl,rfl⟩
  obtain⟨xs,hxs0⟩:∃ xs,xs=(List.range N).map fun t=>dec (gbit us t):=⟨_,rfl⟩
  have hxs:xs.length=N:=by rw [hxs0];simp
  rw [←hxs0]
  refine FZ.use (qkj (by omega)) ?_
  have hpx:∀ (y1 y2:AB),Pre HX (HX++[y1,y2]):=fun y1 y2=>Pre.new HX [y1,y2]
  rw [zeros_ev F]
  have ix0:qbc (.ixS 1) [.slice (some ⟨HX.length,0,none⟩) N N,nv 0]=some (.pointer (some ⟨HX.length,0,none⟩)):=by rw [qg1 (by omega)]
  have st1:=st_ev (cd:=cd) (H:=HX++[.cells (evs cd xs) 3 none false,.cells (evs cd (List.replicate N (Fl.zero:α))) 3 none false]) (bl:=HX.length) (k:=0) (xs:=xs) (x:=Fl.one) (t:=3) (op:=none) (by simp) (by omega)
  have e1:(HX++[AB.cells (evs cd xs) 3 none false,AB.cells (evs cd (List.replicate N (Fl.zero:α))) 3 none false]).set HX.length (AB.cells (evs cd (xs.set 0 Fl.one)) 3 none false)=HX++[AB.cells (evs cd (xs.set 0 Fl.one)) 3 none false,AB.cells (evs cd (List.replicate N (Fl.zero:α))) 3 none false]:=by
    rw [List.set_append_right _ _ (by omega)];simp
  rw [e1,F.one] at st1
  obtain⟨xa,hxa⟩:∃ xa,xa=xs.set 0 Fl.one:=⟨_,rfl⟩
  have hxal:xa.length=N:=by rw [hxa,List.length_set];exact hxs
  have hxa0:xa.getD 0 Fl.zero=Fl.one:=by rw [hxa,getD_set (by omega),if_pos rfl]
  have hxaA:innA dec us N=xa:=by rw [hxa,hxs0];rfl
  rw [←hxa] at st1
  have g4:∀ (y1 y2:AB),(HX++[y1,y2])[H.length]? = some (.cells [bv k,bv n,bv m,x] 24 none false):=fun y1 y2=>(hpx y1 y2).get gx
  have gx4:=g4 (.cells (evs cd xa) 3 none false) (.cells (evs cd (List.replicate N (Fl.zero:α))) 3 none false)
  have c3:qbc (.conv .i64) [bv m]=some (nv m):=qcx (by omega)
  have hN1:1≤N:=by omega
  have hNz:¬N-1=0:=by omega
  obtain⟨i1,hi1⟩:∃ i1,i1=1+m % (N-1):=⟨_,rfl⟩
  have hi1N:i1<N:=by have:=Nat.mod_lt m (show 0<N-1 by omega);omega
  have ix1:qbc (.ixS 1) [.slice (some ⟨HX.length+1,0,none⟩) N N,nv i1]=some (.pointer (some ⟨HX.length+1,i1,none⟩)):=by rw [qg1 hi1N];simp
  have st2:=st_ev (cd:=cd) (H:=HX++[.cells (evs cd xa) 3 none false,.cells (evs cd (List.replicate N (Fl.zero:α))) 3 none false]) (bl:=HX.length+1) (k:=i1) (xs:=List.replicate N (Fl.zero:α)) (x:=Fl.one) (t:=3) (op:=none) (by simp) (by simpa using hi1N)
  have e2:∀ zs ys:List α,(HX++[AB.cells (evs cd xa) 3 none false,AB.cells (evs cd zs) 3 none false]).set (HX.length+1) (AB.cells (evs cd ys) 3 none false)=HX++[AB.cells (evs cd xa) 3 none false,AB.cells (evs cd ys) 3 none false]:=fun zs ys=>by
    rw [List.set_append_right _ _ (by omega)];simp
  rw [e2,F.one] at st2
  rw [hi1] at ix1 st2
  simp (disch:=omega) only [zA,zB,zC,zD,zF,zG,zH,↓reduceIte,ix0,st1,gx4,c3,hN1,hNz,ix1,st2]
  rw [←hi1]
  refine joinV0.via (fun H'=>H'=HX++[.cells (evs cd xa) 3 none false,.cells (evs cd (innB dec us N i1)) 3 none false]) ?_ ?_
  · intro J hJ
    have hxb0:((List.replicate N (Fl.zero:α)).set i1 Fl.one).length=N:=by simp
    obtain⟨xb0,hxb⟩:∃ xb0,xb0=(List.replicate N (Fl.zero:α)).set i1 Fl.one:=⟨_,rfl⟩
    rw [←hxb] at hxb0 ⊢
    have gx5:=g4 (.cells (evs cd xa) 3 none false) (.cells (evs cd xb0) 3 none false)
    have hv8:=hx.pre (hX.trans (hpx (.cells (evs cd xa) 3 none false) (.cells (evs cd xb0) 3 none false)))
    have vl:=hv8.len
    rw [List.length_map] at vl
    by_cases hu0:0<us.length
    · have vi:=hv8.ix (k:=0) (by rw [List.length_map];exact hu0)
      have ld:=bv_ld hv8 hu0
      have hu:=getD_lt hus hu0
      have cv:qbc (.conv .i64) [bv (us.getD 0 0)]=some (nv (us.getD 0 0)):=qcx (by omega)
      obtain⟨y,hy0⟩:∃ y,y=dec (us.getD 0 0 / 2 % 2):=⟨_,rfl⟩
      have hy:cd y=us.getD 0 0 / 2 % 2:=by rw [hy0];exact hd _ (Nat.mod_lt _ (by omega))
      have h2:¬(2:Nat)=0:=by decide
      have hNN:N-1<N:=by omega
      have ix2:qbc (.ixS 1) [.slice (some ⟨HX.length+1,0,none⟩) N N,nv (N-1)]=some (.pointer (some ⟨HX.length+1,N-1,none⟩)):=by rw [qg1 hNN];simp
      have st:=st_ev (cd:=cd) (H:=HX++[.cells (evs cd xa) 3 none false,.cells (evs cd xb0) 3 none false]) (bl:=HX.length+1) (k:=N-1) (xs:=xb0) (x:=y) (t:=3) (op:=none) (by simp) (by omega)
      rw [e2,hy] at st
      have hdl:us.getD 0 0 / 2<4611686018427387904:=by omega
      simp (disch:=omega) only [zA,zB,zC,zD,zF,zG,zH,↓reduceIte,gx5,vl,hu0,hN1,vi,ld,cv,h2,ix2,st]
      have eB:innB dec us N i1=xb0.set (N-1) y:=by unfold innB;rw [if_pos hu0,hy0,hxb];rfl
      exact hJ _ (by rw [eB])
    · simp (disch:=omega) only [zA,zB,zC,zD,zF,zG,zH,↓reduceIte,gx5,vl,hu0]
      have eB:innB dec us N i1=xb0:=by unfold innB;rw [if_neg hu0,hxb];rfl
      exact hJ _ (by rw [eB])
  rintro _ rfl
  have hxb0':(innB dec us N i1).length=N:=by unfold innB;split<;>simp [qdg]
  obtain⟨xb,hxbB⟩:∃ xb,xb=innB dec us N i1:=⟨_,rfl⟩
  have hxb:xb.length=N:=by rw [hxbB];exact hxb0'
  rw [←hxbB]
  have f1:qbr [.slice none 0 0,.slice none 0 0] [(0,1),(1,1)] [.slice (some ⟨HX.length,0,none⟩) N N,.slice (some ⟨HX.length+1,0,none⟩) N N]=some [.slice (some ⟨HX.length,0,none⟩) N N,.slice (some ⟨HX.length+1,0,none⟩) N N]:=rfl
  simp (disch:=omega) only [zA,zB,zC,zD,zF,zG,zH,↓reduceIte,f1]
  have hp9:=Pre.new HX [.cells (evs cd xa) 3 none false,.cells (evs cd xb) 3 none false,.cells [.slice (some ⟨HX.length,0,none⟩) N N,.slice (some ⟨HX.length+1,0,none⟩) N N] 31 none false]
  have ga9:(HX++[.cells (evs cd xa) 3 none false,.cells (evs cd xb) 3 none false,.cells [.slice (some ⟨HX.length,0,none⟩) N N,.slice (some ⟨HX.length+1,0,none⟩) N N] 31 none false])[HX.length]? = some (.cells (evs cd xa) 3 none false):=by simp
  obtain⟨H9,hH9⟩:∃ H9,H9=HX++[.cells (evs cd xa) 3 none false,.cells (evs cd xb) 3 none false,.cells [.slice (some ⟨HX.length,0,none⟩) N N,.slice (some ⟨HX.length+1,0,none⟩) N N] 31 none false]:=⟨_,rfl⟩
  have hRR:RowR H9 (.slice (some ⟨HX.length+2,0,none⟩) 2 2) (evr cd [xa,xb]):=by
    rw [hH9]
    exact qg4 (n:=N) (v:=.slice (some ⟨HX.length,0,none⟩) N N) (w:=.slice (some ⟨HX.length+1,0,none⟩) N N) (by simp) (Row.of (b:=HX.length) (e:=3) (op:=none) (r:=false) (by simp) (by rw [List.length_map,hxal]) (Nat.le_refl _)) (Row.of (b:=HX.length+1) (e:=3) (op:=none) (r:=false) (by simp) (by rw [List.length_map,hxb]) (Nat.le_refl _))
  have hl9:H9.length=HX.length+3:=by rw [hH9];simp
  rw [←hH9] at hp9 ga9 ⊢
  clear hH9
  have hw2:∀ z∈[xa,xb],z.length=N:=by
    intro z hz
    simp only [List.mem_cons,List.not_mem_nil,or_false] at hz
    rcases hz with rfl|rfl
    · exact hxal
    · exact hxb
  refine FZ.mono (qkz Q hRR hw2 (by simp) (by omega) (by omega)) ?_
  rintro _ H10 ⟨hp10,w,rfl,hw⟩
  obtain⟨hr1,_,hr3⟩:=qbz hw2
  have pc:∀ q n (v:Value) er,qbc (.prt (some 3) 0) [gotv q n v er]=some (codv q n v):=fun _ _ _ _=>rfl
  have s12:=qbs (H:=H10++[.cells [nv 0,nv 0,.slice none 0 0] 29 none false]) (bl:=H10.length) (x:=nv 2) (y:=nv N) (z:=w) (c0:=nv 0) (c1:=nv 0) (c2:=.slice none 0 0) (e:=29) (op:=none) rfl rfl hw.one
  rw [qb2] at s12
  simp (disch:=omega) only [zA,zB,zC,zD,zF,zG,zH,↓reduceIte,pc,s12]
  have hp12:=Pre.new H10 [.cells [nv 2,nv N,w] 29 none false]
  have gc12:(H10++[.cells [nv 2,nv N,w] 29 none false])[H10.length]? = some (.cells [nv 2,nv N,w] 29 none false):=by simp
  have hw12:=hw.pre hp12
  have hl12:(H10++[AB.cells [nv 2,nv N,w] 29 none false]).length=H10.length+1:=by simp
  obtain⟨H12,hH12⟩:∃ H12,H12=H10++[.cells [nv 2,nv N,w] 29 none false]:=⟨_,rfl⟩
  rw [←hH12] at hp12 gc12 hw12 hl12 ⊢
  clear hH12 s12
  have hpX12:=hp9.trans (hp10.trans hp12)
  have hl10:=hp10.len
  refine joinV0.via (fun H'=>Pre HX H'∧H10.length<H'.length∧∃ w,H'[H10.length]? = some (.cells [nv 2,nv N,w] 29 none false)∧LRed N (innM dec us N m)∧(innM dec us N m).length=2∧Lw.RowLo HX.length H' w (evr cd (innM dec us N m))) ?_ ?_
  · intro J hJ
    obtain⟨vs,hvs,hvl,_⟩:=hw12.rowR.open
    obtain⟨vl,_,_,_⟩:=hvs.allV
    rw [hvl] at vl
    by_cases h2:(qbk [xa,xb]).length<2
    · simp (disch:=omega) only [zA,zB,zC,zD,zF,zG,zH,↓reduceIte,gc12,vl,h2]
      refine FZ.use (qkj (by omega)) ?_
      rw [zeros_ev F]
      have ix3:qbc (.ixS 1) [.slice (some ⟨H12.length,0,none⟩) N N,nv 1]=some (.pointer (some ⟨H12.length,1,none⟩)):=by rw [qg1 (by omega)]
      have st3:=st_ev (cd:=cd) (H:=H12++[.cells (evs cd (List.replicate N (Fl.zero:α))) 3 none false]) (bl:=H12.length) (k:=1) (xs:=List.replicate N (Fl.zero:α)) (x:=Fl.one) (t:=3) (op:=none) (by simp) (by simp;omega)
      rw [qb2,F.one] at st3
      have f2:qbr [.slice none 0 0,.slice none 0 0] [(0,1),(1,1)] [.slice (some ⟨HX.length,0,none⟩) N N,.slice (some ⟨H12.length,0,none⟩) N N]=some [.slice (some ⟨HX.length,0,none⟩) N N,.slice (some ⟨H12.length,0,none⟩) N N]:=rfl
      simp (disch:=omega) only [zA,zB,zC,zD,zF,zG,zH,↓reduceIte,ix3,st3,f2]
      have hp15:=Pre.new H12 [.cells (evs cd (qdg (α:=α) N 1)) 3 none false,.cells [.slice (some ⟨HX.length,0,none⟩) N N,.slice (some ⟨H12.length,0,none⟩) N N] 31 none false]
      have eu:(H12++[AB.cells (evs cd ((List.replicate N (Fl.zero:α)).set 1 Fl.one)) 3 none false,AB.cells [.slice (some ⟨HX.length,0,none⟩) N N,.slice (some ⟨H12.length,0,none⟩) N N] 31 none false])=H12++[AB.cells (evs cd (qdg (α:=α) N 1)) 3 none false,AB.cells [.slice (some ⟨HX.length,0,none⟩) N N,.slice (some ⟨H12.length,0,none⟩) N N] 31 none false]:=rfl
      rw [eu]
      have ga12:=(hp10.trans hp12).get ga9
      have ga15:=hp15.get ga12
      have gc15:=hp15.get gc12
      have hul:(qdg (α:=α) N 1).length=N:=by simp [qdg]
      have hRR2:RowR (H12++[AB.cells (evs cd (qdg (α:=α) N 1)) 3 none false,AB.cells [.slice (some ⟨HX.length,0,none⟩) N N,.slice (some ⟨H12.length,0,none⟩) N N] 31 none false]) (.slice (some ⟨H12.length+1,0,none⟩) 2 2) (evr cd [xa,qdg N 1]):=
        qg4 (n:=N) (v:=.slice (some ⟨HX.length,0,none⟩) N N) (w:=.slice (some ⟨H12.length,0,none⟩) N N) (by simp) (Row.of ga15 (by rw [List.length_map,hxal]) (Nat.le_refl _)) (Row.of (b:=H12.length) (e:=3) (op:=none) (r:=false) (by simp) (by rw [List.length_map,hul]) (Nat.le_refl _))
      have hl15:(H12++[AB.cells (evs cd (qdg (α:=α) N 1)) 3 none false,AB.cells [.slice (some ⟨HX.length,0,none⟩) N N,.slice (some ⟨H12.length,0,none⟩) N N] 31 none false]).length=H12.length+2:=by simp
      obtain⟨H15,hH15⟩:∃ H15,H15=H12++[AB.cells (evs cd (qdg (α:=α) N 1)) 3 none false,AB.cells [.slice (some ⟨HX.length,0,none⟩) N N,.slice (some ⟨H12.length,0,none⟩) N N] 31 none false]:=⟨_,rfl⟩
      rw [←hH15] at hp15 gc15 hRR2 hl15 ⊢
      have hw3:∀ z∈[xa,qdg N 1],z.length=N:=by
        intro z hz
        simp only [List.mem_cons,List.not_mem_nil,or_false] at hz
        rcases hz with rfl|rfl
        · exact hxal
        · exact hul
      refine FZ.mono (qkz Q hRR2 hw3 (by simp) (by omega) (by omega)) ?_
      rintro _ H16 ⟨hp16,w16,rfl,hw16⟩
      have gc16:=hp16.get gc15
      have s17:=qbs (H:=H16) (bl:=H10.length) (x:=nv 2) (y:=nv N) (z:=w16) (c0:=nv 2) (c1:=nv N) (c2:=w) (e:=29) (op:=none) rfl rfl hw16.one
      simp (disch:=omega) only [zA,zB,zC,zD,zF,zG,zH,↓reduceIte,pc,gc16,s17]
      have hl16:=hp16.len
      have eM:innM dec us N m=qbk [xa,qdg N 1]:=by unfold innM;rw [←hi1,hxaA,←hxbB,if_pos h2]
      rw [eM] at hJ
      refine hJ _ ⟨(hpX12.trans (hp15.trans hp16)).set (by omega) _,by rw [List.length_set];omega,w16,List.getElem?_set_self (qbx gc16),(qbz hw3).1,inner_ind hxal hN2.1 hxa0,(hw16.setLow (by omega)).mono (by omega)⟩
    · simp (disch:=omega) only [zA,zB,zC,zD,zF,zG,zH,↓reduceIte,gc12,vl,h2]
      have h3:(qbk [xa,xb]).length=2:=by simp at hr3;omega
      have eM:innM dec us N m=qbk [xa,xb]:=by unfold innM;rw [←hi1,hxaA,←hxbB,if_neg h2]
      rw [eM] at hJ
      exact hJ _ ⟨hpX12,by omega,w,gc12,hr1,h3,hw12.mono (by omega)⟩
  rintro H18 ⟨hp18,hl18,w18,gc18,hB,hB2,hw18⟩
  have gr18:=hp18.get gr
  have s19:=qbs (H:=H18) (bl:=H.length+1) (x:=nv 2) (y:=nv N) (z:=w18) (c0:=nv 0) (c1:=nv 0) (c2:=.slice none 0 0) (e:=29) (op:=none) rfl rfl hw18.one
  have g19:(H18.set (H.length+1) (.cells [nv 2,nv N,w18] 29 none false))[H.length+1]? = some (.cells [nv 2,nv N,w18] 29 none false):=List.getElem?_set_self (qbx gr18)
  simp (disch:=omega) only [zA,zB,zC,zD,zF,zG,zH,↓reduceIte,gc18,gr18,s19,g19]
  exact⟨(hX.trans hp18).set (by omega) _,w18,rfl,hB,hB2,(hw18.setLow (by omega)).mono (by omega)⟩
end
section
variable {α β:Type} [Fl α] [Fl β] [DecidableEq α] [DecidableEq β] {cda:α→Nat} {cdb:β→Nat} {p e p2 e2:Nat} {blk blk2:AB} {H:AH}
theorem concat26_c (Q4:FQ α cda p e 4 blk) (Q2:FQ β cdb p2 e2 2 blk2) {two:α} (h2:cda two=2) {v w:Value} {n m:Nat} {A:List (List α)} {B:List (List β)} (rep:List α→List β)
    (hrep:∀ x:List α,(rep x).map cdb=repL m ((B.getD 0 []).map cdb) ((B.getD 1 []).map cdb) (x.map cda)) (hv:RowR H v (evr cda A)) (hw:RowR H w (evr cdb B)) (hA:∀ x∈A,x.length=n) (hB:∀ x∈B,x.length=m) (hB2:B.length=2) (hlA:A.length≤100) (hn0:0<n) (hm0:0<m) (hnm:n*m≤24) :
    FN Tryz.prog 26 [codv 4 n v,codv 2 m w] H (RetG cdb 2 (n*m) (qbk ((lcat two A).map rep)) H):=by
  refine g26_of ?_
  unfold g26
  have ho:=hv.one'
  have ho2:=hw.one'
  simp (disch:=omega) only [zA,zB,zC,zD,zF,zG,zH,↓reduceIte,ho2]
  have hX:=Pre.new H [.cells [nv 4,nv n,v] 29 none false,.cells [nv 2,nv m,w] 29 none false,.cells [nv 0,nv 0,.slice none 0 0,nv 0] 37 none false]
  refine FZ.mono (mconcat_c Q4 Q2 h2 rep hrep (hv.pre hX) (hw.pre hX) hA hB hB2 hlA hn0 hm0 hnm) ?_
  rintro _ H3 ⟨hp3,w9,rfl,hw9⟩
  have s4:=qbs (H:=H3++[.cells [nv 0,nv 0,.slice none 0 0] 29 none false]) (bl:=H3.length) (x:=nv 2) (y:=nv (n*m)) (z:=w9) (c0:=nv 0) (c1:=nv 0) (c2:=.slice none 0 0) (e:=29) (op:=none) rfl rfl hw9.one
  rw [qb2] at s4
  have hb3:H3[H.length+2]? = some (.cells [nv 0,nv 0,.slice none 0 0,nv 0] 37 none false):=hp3.get (by simp)
  have hb4:=qdr hb3 [.cells [nv 2,nv (n*m),w9] 29 none false]
  have s6:=qcj (H:=H3++[.cells [nv 2,nv (n*m),w9] 29 none false]) (bl:=H.length+2) (x:=nv 2) (y:=nv (n*m)) (z:=w9) (u:=nv 0) (c0:=nv 0) (c1:=nv 0) (c2:=.slice none 0 0) (c3:=nv 0) (e:=37) (op:=none) rfl rfl hw9.one rfl
  have g6:((H3++[AB.cells [nv 2,nv (n*m),w9] 29 none false]).set (H.length+2) (AB.cells [nv 2,nv (n*m),w9,nv 0] 37 none false))[H.length+2]? = some (.cells [nv 2,nv (n*m),w9,nv 0] 37 none false):=List.getElem?_set_self (qbx hb4)
  have f4:=qb7 (q:=2) (n:=n*m) (er:=0) hw9.isSl
  simp (disch:=omega) only [zA,zB,zC,zD,zF,zG,zH,↓reduceIte,s4,hb4,f4,s6,g6]
  refine⟨((hX.trans hp3).app _).set (by omega) _,w9,rfl,?_⟩
  exact ((hw9.pre (Pre.new H3 _)).setLow (by simp)).mono (by simp)
end
end Go.Sim
