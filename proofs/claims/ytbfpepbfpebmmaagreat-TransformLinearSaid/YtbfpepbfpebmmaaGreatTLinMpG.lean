/- Part of the proof: MpG. -/
import Derived.Test.YtbfpepbfpebmmaaGreatTLinMpF
set_option linter.all false
namespace Go.Sim
open Go Go.Proofs
section
variable {α:Type} [Fl α] [DecidableEq α] {cd:α→Nat} {p e b c q:Nat} {blk:AB} {H:AH}
def mrow (us:List Nat) (q N i t:Nat):Nat:=if t=i then 1 else if us.length=0 then 0 else us.getD ((i*N+t) % us.length) 0 % q
theorem mrow_lt {us:List Nat} {q N i t:Nat} (hq:2≤q):mrow us q N i t<q:=by
  unfold mrow
  split
  · omega
  · split
    · omega
    · exact Nat.mod_lt _ (by omega)
def qmc {α:Type} (dec:Nat→α) (us:List Nat) (q N kk:Nat):List (List α):=(List.range kk).map fun i=>(List.range N).map fun t=>dec (mrow us q N i t)
theorem evs_dec {dec:Nat→α} {n:Nat} {f:Nat→Nat} (hd:∀ t,t<n→cd (dec (f t))=f t):evs cd ((List.range n).map fun t=>dec (f t))=tab n fun t=>nv (f t):=by
  unfold evs tab
  rw [List.map_map]
  exact List.map_congr_left fun t ht=>by show nv (cd (dec (f t)))=_;rw [hd t (List.mem_range.1 ht)]
theorem made4_c {j:Nat} (Q:FQ α cd p e (Pf.ordM j) blk) {dec:Nat→α} (hd:∀ d,d<Pf.ordM j→cd (dec d)=d) {x:Value} {us:List Nat} {k n m:Nat} (hk:k % 6=j) (hm:m<256) (hus:∀ u∈us,u<256) (hx:Row H x (us.map bv)) :
    FN Tryz.prog 12 [rawv k n m x] H (fun r H'=>Pre H H'∧∃ w,r=codv (Pf.ordM j) (1+n % 10) w∧Lw.RowLo H.length H' w (evr cd (qb4 (qmc dec us (Pf.ordM j) (1+n % 10) (m % (qq1 j+1)))))):=by
  refine g12_of ?_
  unfold g12
  have hj:j<6:=by omega
  obtain⟨hm8,hq8,hq2⟩:=most_le hj
  obtain⟨q,hq⟩:∃ q,q=Pf.ordM j:=⟨_,rfl⟩
  obtain⟨mo,hmo⟩:∃ mo,mo=qq1 j:=⟨_,rfl⟩
  rw [←hq] at Q hq8 hq2 hd ⊢
  rw [←hmo] at hm8 ⊢
  have r6:xbin .rem 0 (bv k) (.int .u8 6)=some (bv j):=by rw [←hk];exact rem8 (m:=6) (by decide)
  have r10:xbin .rem 0 (bv n) (.int .u8 10)=some (bv (n % 10)):=rem8 (m:=10) (by decide)
  have c1:qbc (.conv .i64) [bv (n % 10)]=some (nv (n % 10)):=qjz (by omega)
  have c3:qbc (.conv .i64) [bv m]=some (nv m):=qjz (by omega)
  have hxo:=hx.one
  have hxc:=hx.cells
  obtain⟨N,hN⟩:∃ N,N=1+n % 10:=⟨_,rfl⟩
  have hN10:N≤10:=by omega
  have hN1:1≤N:=by omega
  have l6:=ld6 hj
  have l6':=ld6' hj
  rw [←hq] at l6
  rw [←hmo] at l6'
  simp (disch:=(first|omega|(simp only [qbf]<;>omega)|(simp only [qbd];done)|rfl)) only [zA,zB,zC,zD,zF,zG,zH,Nat.reduceEqDiff,Nat.reduceLT,Nat.reduceLeDiff,↓reduceIte,r6,r10,c1,c3,ix6,hj,l6,l6']
  rw [←hN]
  obtain⟨kk,hkk⟩:∃ kk,kk=m % (mo+1):=⟨_,rfl⟩
  have hkk8:kk≤8:=by have:=Nat.mod_lt m (show 0<mo+1 by omega);omega
  have hkm:kk≤mo:=by rw [hkk];exact Nat.le_of_lt_succ (Nat.mod_lt _ (Nat.succ_pos _))
  rw [←hkk]
  have hX0:=Pre.new H [.cells [bv k,bv n,bv m,x] 24 none false,.cells [nv 0,nv 0,.slice none 0 0] 29 none false,.cells [nv 2,nv 3,nv 4,nv 5,nv 7,nv 8] 3 none false,.cells [nv 8,nv 5,nv 4,nv 3,nv 2,nv 2] 3 none false]
  obtain⟨HX,hHX⟩:∃ HX,HX=H++[.cells [bv k,bv n,bv m,x] 24 none false,.cells [nv 0,nv 0,.slice none 0 0] 29 none false,.cells [nv 2,nv 3,nv 4,nv 5,nv 7,nv 8] 3 none false,.cells [nv 8,nv 5,nv 4,nv 3,nv 2,nv 2] 3 none false]:=⟨_,rfl⟩
  have hXl:HX.length=H.length+4:=by rw [hHX];simp
  have gx:HX[H.length]? = some (.cells [bv k,bv n,bv m,x] 24 none false):=by rw [hHX];simp
  have gc:HX[H.length+1]? = some (.cells [nv 0,nv 0,.slice none 0 0] 29 none false):=by rw [hHX];simp
  have hsp:H++[.cells [bv k,bv n,bv m,x] 24 none false,.cells [nv 0,nv 0,.slice none 0 0] 29 none false,.cells [nv 2,nv 3,nv 4,nv 5,nv 7,nv 8] 3 none false,.cells [nv 8,nv 5,nv 4,nv 3,nv 2,nv 2] 3 none false,.cells [] 31 none false]=HX++[.cells [] 31 none false]:=by rw [hHX];simp
  have hsl:H.length+4=HX.length:=hXl.symm
  rw [←hHX] at hX0
  rw [hsp]
  refine loopV2.nat kk (fun i out i' H'=>i'=nv i∧Pre HX H'∧AccR HX H' out (evr cd (qmc dec us q N i)) 31) ⟨rfl,Pre.new _ _,?_⟩ ?_ ?_
  · have:=AccR.new (H0:=HX) (H:=HX) (Nat.le_refl _) (e:=31) (Y:=[])
    rw [hXl] at this
    exact this
  · rintro i out i' H6 hi ⟨rfl,hp6,ho⟩ J hJ
    obtain⟨f,hf⟩:∃ f:Nat→Nat,f=fun t=>if us.length=0 then 0 else us.getD ((i*N+t) % us.length) 0 % q:=⟨_,rfl⟩
    simp (disch:=omega) only [zA,zB,zC,zD,zF,zG,zH,↓reduceIte,hi]
    refine FZ.use (zero_c (by omega)) ?_
    have h7:=Pre.new H6 [.cells ((List.replicate N 0).map nv) 3 none false]
    have hiN:i*N≤80:=Nat.mul_le_mul (show i≤8 by omega) hN10
    refine loopV1.nat N (fun jj j' H'=>j'=nv jj∧Pre H6 H'∧H'[H6.length]? = some (.cells (tab N fun t=>nv (if t<jj then f t else 0)) 3 none false)) ⟨rfl,h7,?_⟩ ?_ ?_
    · rw [qps];simp
    · rintro jj j' H8 hjj ⟨rfl,hp8,hb8⟩ J2 hJ2
      have hpp:=hp6.trans hp8
      have gx8:=hpp.get gx
      have hv8:=hx.pre (hX0.trans hpp)
      have vl:=hv8.len
      rw [List.length_map] at vl
      simp (disch:=omega) only [zA,zB,zC,zD,zF,zG,zH,↓reduceIte,hjj]
      refine joinV0.via (fun H'=>Pre H6 H'∧H'[H6.length]? = some (.cells (tab N fun t=>nv (if t<jj+1 then f t else 0)) 3 none false)) ?_ ?_
      · intro J3 hJ3
        by_cases h0:us.length=0
        · have h0':¬0<us.length:=by omega
          simp (disch:=omega) only [zA,zB,zC,zD,zF,zG,zH,↓reduceIte,gx8,vl,h0']
          refine hJ3 _ ⟨hp8,?_⟩
          rw [hb8]
          congr 2
          exact qhz fun t ht=>by rw [hf];simp [h0]
        · have hpos:0<us.length:=by omega
          obtain⟨t,ht⟩:∃ t,t=(i*N+jj) % us.length:=⟨_,rfl⟩
          have htl:t<us.length:=by rw [ht];exact Nat.mod_lt _ hpos
          have vi:=hv8.ix (k:=t) (by rw [List.length_map];exact htl)
          have ld:=bv_ld hv8 htl
          have hu:=getD_lt hus htl
          have cv:qbc (.conv .i64) [bv (us.getD t 0)]=some (nv (us.getD t 0)):=qjz (by omega)
          have hq0:0<q:=by omega
          have hft:f jj=us.getD t 0 % q:=by rw [hf,ht];simp only [];rw [if_neg h0]
          have st:=tab_st (k:=jj) (v:=nv (us.getD t 0 % q)) (g:=fun t=>nv (if t<jj+1 then f t else 0)) hb8 hjj rfl rfl (by rw [if_pos (by omega),hft]) (fun s hs hne=>by
            by_cases h:s<jj
            · rw [if_pos h,if_pos (by omega)]
            · rw [if_neg h,if_neg (by omega)])
          rw [ht] at vi ld cv st
          simp (disch:=omega) only [zA,zB,zC,zD,zF,zG,zH,↓reduceIte,gx8,vl,hpos,vi,ld,cv,hq0,hjj,hb8,st]
          exact hJ3 _ ⟨hp8.set (Nat.le_refl _) _,List.getElem?_set_self (qbr hb8)⟩
      · rintro H10 ⟨hp10,hb10⟩
        simp (disch:=omega) only [zA,zB,zC,zD,zF,zG,zH,↓reduceIte]
        exact hJ2 _ _ ⟨rfl,hp10,hb10⟩
    · rintro j' H8 ⟨rfl,hp8,hb8⟩ J2
      simp (disch:=omega) only [zA,zB,zC,zD,zF,zG,zH,↓reduceIte]
      have hb8:H8[H6.length]? = some (.cells (tab N fun t=>nv (f t)) 3 none false):=by
        rw [hb8];congr 2;exact qhz fun t ht=>by rw [if_pos ht]
      refine joinV0.via (fun H'=>Pre H6 H'∧H'[H6.length]? = some (.cells (tab N fun t=>nv (mrow us q N i t)) 3 none false)) ?_ ?_
      · intro J3 hJ3
        by_cases hiN2:i<N
        · have st:=tab_st (k:=i) (v:=nv 1) (g:=fun t=>nv (mrow us q N i t)) hb8 hiN2 rfl rfl (by unfold mrow;rw [if_pos rfl]) (fun s hs hne=>by unfold mrow;rw [if_neg hne,hf])
          simp (disch:=omega) only [zA,zB,zC,zD,zF,zG,zH,↓reduceIte,hiN2,hb8,st]
          exact hJ3 _ ⟨hp8.set (Nat.le_refl _) _,List.getElem?_set_self (qbr hb8)⟩
        · simp (disch:=omega) only [zA,zB,zC,zD,zF,zG,zH,↓reduceIte,hiN2]
          refine hJ3 _ ⟨hp8,?_⟩
          rw [hb8]
          congr 2
          exact qhz fun t ht=>by unfold mrow;rw [if_neg (by omega),hf]
      · rintro H10 ⟨hp10,hb10⟩
        have hpp:=hp6.trans hp10
        have er:evs cd ((List.range N).map fun t=>dec (mrow us q N i t))=tab N fun t=>nv (mrow us q N i t):=evs_dec fun t _=>hd _ (mrow_lt hq2)
        rw [←er] at hb10
        have hr:Row H10 (.slice (some ⟨H6.length,0,none⟩) N N) (evs cd ((List.range N).map fun t=>dec (mrow us q N i t))):=Row.of hb10 (by simp) (Nat.le_refl _)
        have hml:(qmc dec us q N i).length=i:=by simp [qmc]
        obtain⟨out',H12,e1,ho',hp',_⟩:=(ho.pre hp10).app1 (by_:=24) hpp.len hr (qhj _) (by rw [List.length_map,hml];omega) (by rw [List.length_map,hml];omega) (e2:=31)
        simp (disch:=(first|omega|(simp only [qbf]<;>omega)|(simp only [qbd];done)|rfl)) only [zA,zB,zC,zD,zF,zG,zH,Nat.reduceEqDiff,Nat.reduceLT,Nat.reduceLeDiff,↓reduceIte,e1]
        refine hJ _ _ _ ⟨rfl,hp' hpp,?_⟩
        have em:qmc dec us q N (i+1)=qmc dec us q N i++[(List.range N).map fun t=>dec (mrow us q N i t)]:=by
          unfold qmc;rw [List.range_succ,List.map_append];rfl
        rw [em]
        simpa [evr] using ho'
  · rintro out i' H6 ⟨rfl,hp6,ho⟩ J
    have hxw:∀ x∈qmc dec us q N kk,x.length=N:=fun x hx=>by obtain⟨i,_,rfl⟩:=List.mem_map.1 hx;simp
    have hxl:(qmc dec us q N kk).length=kk:=by simp [qmc]
    simp (disch:=omega) only [zA,zB,zC,zD,zF,zG,zH,↓reduceIte]
    refine FZ.mono (over_c Q) ?_
    rintro _ H15 ⟨hp15,b,rfl,hb⟩
    have hR:=ho.rowR.pre hp15
    refine FZ.mono (rreduce_c (Q.ok b) hb hR hxw (by omega) (by omega) hN1) ?_
    rintro w H16 ⟨hp16,hw⟩
    have hpp:=hp6.trans (hp15.trans hp16)
    have gc16:=hpp.get gc
    have s9:=qc7 (H:=H16) (bl:=H.length+1) (x:=nv q) (y:=nv N) (z:=w) (c0:=nv 0) (c1:=nv 0) (c2:=.slice none 0 0) (e:=29) (op:=none) rfl rfl hw.one
    have g9:(H16.set (H.length+1) (AB.cells [nv q,nv N,w] 29 none false))[H.length+1]? = some (.cells [nv q,nv N,w] 29 none false):=List.getElem?_set_self (qbr gc16)
    have hf:=hw.fill
    simp (disch:=(first|omega|(simp only [qbf]<;>omega)|(simp only [qbd];done)|rfl)) only [zA,zB,zC,zD,zF,zG,zH,Nat.reduceEqDiff,Nat.reduceLT,Nat.reduceLeDiff,↓reduceIte,hf,gc16,s9,g9]
    have hl15:=(hp6.trans hp15).len
    exact⟨(hX0.trans hpp).set (by omega) _,w,rfl,(hw.setLow (by omega)).mono (by omega)⟩
theorem made3_c {j:Nat} (Q:FQ α cd p e (Pf.ordM j) blk) {x:Value} {us:List Nat} {k n m:Nat} (hk:k % 6=j) (hm:m<256) (hus:∀ u∈us,u<256) (hx:Row H x (us.map bv)) :
    FN Tryz.prog 12 [rawv k n m x] H (fun r H'=>Pre H H'∧∃ w A,r=codv (Pf.ordM j) (1+n % 10) w∧LRed (1+n % 10) A∧A.length≤m % (qq1 j+1)∧Lw.RowLo H.length H' w (evr cd A)):=by
  obtain⟨dec,hdec⟩:=dec_ex (Q.ok 0)
  refine (made4_c Q hdec hk hm hus hx).mono ?_
  rintro r H' ⟨h1,w,e,h2⟩
  have hxw:∀ x∈qmc dec us (Pf.ordM j) (1+n % 10) (m % (qq1 j+1)),x.length=1+n % 10:=fun x hx=>by obtain⟨i,_,rfl⟩:=List.mem_map.1 hx;simp
  obtain⟨d1,_,d3⟩:=qcb hxw
  have hxl:(qmc dec us (Pf.ordM j) (1+n % 10) (m % (qq1 j+1))).length=m % (qq1 j+1):=by simp [qmc]
  exact⟨h1,w,_,e,d1,by omega,h2⟩
theorem made2_c {j:Nat} (Q:FQ α cd p e (Pf.ordM j) blk) {x:Value} {us:List Nat} {k n m:Nat} (hk:k % 6=j) (hm:m<256) (hus:∀ u∈us,u<256) (hx:Row H x (us.map bv)) :
    FN Tryz.prog 12 [rawv k n m x] H (fun r H'=>Pre H H'∧∃ w A,r=codv (Pf.ordM j) (1+n % 10) w∧LRed (1+n % 10) A∧A.length≤qq1 j∧Lw.RowLo H.length H' w (evr cd A)):=
  (made3_c Q hk hm hus hx).mono fun _ _ ⟨h1,w,A,e,h2,h3,h4⟩=>⟨h1,w,A,e,h2,Nat.le_of_lt_succ (Nat.lt_of_le_of_lt h3 (Nat.mod_lt _ (Nat.succ_pos _))),h4⟩
theorem qd6 {H:AH} {bl:Nat} {v w:Value} {xs ys:List α} {n:Nat} (hb:H[bl]? = some (.cells [v,w] 31 none false)) (hv:Row H v (evs cd xs)) (hw:Row H w (evs cd ys)):RowR H (.slice (some ⟨bl,0,none⟩) 2 2) (evr cd [xs,ys]):=by
  refine⟨[v,w],(Row.of hb rfl (Nat.le_refl _)).x (by simp),⟨rfl,fun k hk=>?_⟩⟩
  simp at hk
  rcases k with _|_|k
  · exact hv
  · exact hw
  · omega
end
end Go.Sim
