/- Part of the proof: MpG. -/
import Derived.Test.YtbfpepbfpebmmaaGreatMDisMpF
set_option linter.all false
namespace Go.Sim
open Go Go.Proofs
section
variable {α:Type} [Fl α] [DecidableEq α] {cd:α→Nat} {p e b c q:Nat} {blk:AB} {H:AH}
theorem made3_c {j:Nat} (Q:FQ α cd p e (Pf.ordM j) blk) {x:Value} {us:List Nat} {k n m:Nat} (hk:k % 6=j) (hm:m<256) (hus:∀ u∈us,u<256) (hx:Row H x (us.map bv)) :
    FN Tryz.prog 12 [rawv k n m x] H (fun r H'=>Pre H H'∧∃ w A,r=codv (Pf.ordM j) (1+n % 10) w∧LRed (1+n % 10) A∧A.length≤m % (mostM j+1)∧Lw.RowLo H.length H' w (evr cd A)):=by
  refine g12_of ?_
  unfold g12
  have hj:j<6:=by omega
  obtain⟨hm8,hq8,hq2⟩:=most_le hj
  obtain⟨q,hq⟩:∃ q,q=Pf.ordM j:=⟨_,rfl⟩
  obtain⟨mo,hmo⟩:∃ mo,mo=mostM j:=⟨_,rfl⟩
  rw [←hq] at Q hq8 hq2 ⊢
  rw [←hmo] at hm8 ⊢
  have r6:xbin .rem 0 (bv k) (.int .u8 6)=some (bv j):=by rw [←hk];exact rem8 (m:=6) (by decide)
  have r10:xbin .rem 0 (bv n) (.int .u8 10)=some (bv (n % 10)):=rem8 (m:=10) (by decide)
  have c1:xpure (.conv .i64) [bv (n % 10)]=some (nv (n % 10)):=xp_convN (by omega)
  have c3:xpure (.conv .i64) [bv m]=some (nv m):=xp_convN (by omega)
  have hxo:=hx.one
  have hxc:=hx.cells
  obtain⟨N,hN⟩:∃ N,N=1+n % 10:=⟨_,rfl⟩
  have hN10:N≤10:=by omega
  have hN1:1≤N:=by omega
  have l6:=ld6 hj
  have l6':=ld6' hj
  rw [←hq] at l6
  rw [←hmo] at l6'
  simp (disch:=(first|omega|(simp only [stLen]<;>omega)|(simp only [all_nv];done)|rfl)) only [zA,zB,zC,zD,zF,zG,zH,Nat.reduceEqDiff,Nat.reduceLT,Nat.reduceLeDiff,↓reduceIte,r6,r10,c1,c3,ix6,hj,l6,l6']
  rw [←hN]
  obtain⟨kk,hkk⟩:∃ kk,kk=m % (mo+1):=⟨_,rfl⟩
  have hkk8:kk≤8:=by have:=Nat.mod_lt m (show 0<mo+1 by omega);omega
  have hkm:kk≤mo:=by rw [hkk];exact Nat.le_of_lt_succ (Nat.mod_lt _ (Nat.succ_pos _))
  rw [←hkk]
  have hX0:=Pre.new H [.cells [bv k,bv n,bv m,x] 24 none false,.cells [nv 0,nv 0,.slice none 0 0] 29 none false,.cells [nv 2,nv 3,nv 4,nv 5,nv 7,nv 8] 3 none false,.cells [nv 8,nv 5,nv 4,nv 3,nv 2,nv 2] 3 none false]
  obtain⟨HX,hHX⟩:∃ HX,HX=H++[.cells [bv k,bv n,bv m,x] 24 none false,.cells [nv 0,nv 0,.slice none 0 0] 29 none false,.cells [nv 2,nv 3,nv 4,nv 5,nv 7,nv 8] 3 none false,.cells [nv 8,nv 5,nv 4,nv 3,nv 2,nv 2] 3 none false]:=⟨_,rfl⟩
  have hXl:HX.length=H.length+4:=by rw [hHX];simp
  have gx:HX[H.length]? = some (.cells [bv k,bv n,bv m,x] 24 none false):=by rw [hHX];simp
  have gc:HX[H.length+1]? = some (.cells [nv 0,nv 0,.slice none 0 0] 29 none false):=by rw [hHX];simp
  have hsp:H++[.cells [bv k,bv n,bv m,x] 24 none false,.cells [nv 0,nv 0,.slice none 0 0] 29 none false,.cells [nv 2,nv 3,nv 4,nv 5,nv 7,nv 8] 3 none false,.cells [nv 8,nv 5,nv 4,nv 3,nv 2,nv 2] 3 none false,.cells [] 31 none false]=HX++[.cells [] 31 none false]:=by rw [hHX];simp
  have hsl:H.length+4=HX.length:=hXl.symm
  rw [←hHX] at hX0
  rw [hsp]
  refine loopV2.nat kk (fun i out i' H'=>i'=nv i∧Pre HX H'∧∃ xss:List (List α),xss.length=i∧(∀ x∈xss,x.length=N)∧AccR HX H' out (evr cd xss) 31) ⟨rfl,Pre.new _ _,[],rfl,by simp,?_⟩ ?_ ?_
  · have:=AccR.new (H0:=HX) (H:=HX) (Nat.le_refl _) (e:=31) (Y:=[])
    rw [hXl] at this
    exact this
  · rintro i out i' H6 hi ⟨rfl,hp6,xss,hxl,hxw,ho⟩ J hJ
    simp (disch:=omega) only [zA,zB,zC,zD,zF,zG,zH,↓reduceIte,hi]
    refine FZ.use (zero_c (by omega)) ?_
    have h7:=Pre.new H6 [.cells ((List.replicate N 0).map nv) 3 none false]
    have hiN:i*N≤80:=Nat.mul_le_mul (show i≤8 by omega) hN10
    refine loopV1.nat N (fun jj j' H'=>j'=nv jj∧Pre H6 H'∧∃ xs:List α,xs.length=N∧H'[H6.length]? = some (.cells (evs cd xs) 3 none false)) ⟨rfl,h7,List.replicate N Fl.zero,by simp,?_⟩ ?_ ?_
    · rw [evs_zeros (Q.ok 0)];simp
    · rintro jj j' H8 hjj ⟨rfl,hp8,xs,hxs,hb8⟩ J2 hJ2
      have hpp:=hp6.trans hp8
      have gx8:=hpp.get gx
      have hv8:=hx.pre (hX0.trans hpp)
      have vl:=hv8.len
      rw [List.length_map] at vl
      simp (disch:=omega) only [zA,zB,zC,zD,zF,zG,zH,↓reduceIte,hjj]
      refine joinV0.via (fun H'=>Pre H6 H'∧∃ xs:List α,xs.length=N∧H'[H6.length]? = some (.cells (evs cd xs) 3 none false)) ?_ ?_
      · intro J3 hJ3
        by_cases h0:us.length=0
        · have h0':¬0<us.length:=by omega
          simp (disch:=omega) only [zA,zB,zC,zD,zF,zG,zH,↓reduceIte,gx8,vl,h0']
          exact hJ3 _ ⟨hp8,xs,hxs,hb8⟩
        · have hpos:0<us.length:=by omega
          obtain⟨t,ht⟩:∃ t,t=(i*N+jj) % us.length:=⟨_,rfl⟩
          have htl:t<us.length:=by rw [ht];exact Nat.mod_lt _ hpos
          have vi:=hv8.ix (k:=t) (by rw [List.length_map];exact htl)
          have ld:=bv_ld hv8 htl
          have hu:=getD_lt hus htl
          have cv:xpure (.conv .i64) [bv (us.getD t 0)]=some (nv (us.getD t 0)):=xp_convN (by omega)
          obtain⟨y,hy⟩:=(Q.ok 0).sur (us.getD t 0 % q) (Nat.mod_lt _ (by omega))
          have hq0:0<q:=by omega
          have st:=stB_one (c:=evs cd xs) (e:=3) (op:=none) (H:=H8) (bl:=H6.length) (o:=jj) (v:=nv (us.getD t 0 % q)) rfl rfl (by rw [List.length_map];omega)
          rw [ht] at vi ld cv st
          simp (disch:=omega) only [zA,zB,zC,zD,zF,zG,zH,↓reduceIte,gx8,vl,hpos,vi,ld,cv,hq0,hjj,hb8,st]
          refine hJ3 _ ⟨hp8.set (Nat.le_refl _) _,xs.set jj y,by rw [List.length_set];exact hxs,?_⟩
          have e1:evs cd (xs.set jj y)=(evs cd xs).set jj (nv (us.getD t 0 % q)):=by rw [←hy];simp [evs,List.map_set]
          rw [e1,ht]
          exact List.getElem?_set_self (get_lt hb8)
      · rintro H10 ⟨hp10,xs2,hxs2,hb10⟩
        simp (disch:=omega) only [zA,zB,zC,zD,zF,zG,zH,↓reduceIte]
        exact hJ2 _ _ ⟨rfl,hp10,xs2,hxs2,hb10⟩
    · rintro j' H8 ⟨rfl,hp8,xs,hxs,hb8⟩ J2
      simp (disch:=omega) only [zA,zB,zC,zD,zF,zG,zH,↓reduceIte]
      refine joinV0.via (fun H'=>Pre H6 H'∧∃ xs:List α,xs.length=N∧H'[H6.length]? = some (.cells (evs cd xs) 3 none false)) ?_ ?_
      · intro J3 hJ3
        by_cases hiN2:i<N
        · have st:=stB_one (c:=evs cd xs) (e:=3) (op:=none) (H:=H8) (bl:=H6.length) (o:=i) (v:=nv 1) rfl rfl (by rw [List.length_map];omega)
          simp (disch:=omega) only [zA,zB,zC,zD,zF,zG,zH,↓reduceIte,hiN2,hb8,st]
          refine hJ3 _ ⟨hp8.set (Nat.le_refl _) _,xs.set i Fl.one,by rw [List.length_set];exact hxs,?_⟩
          have e1:evs cd (xs.set i Fl.one)=(evs cd xs).set i (nv 1):=by rw [←(Q.ok 0).one];simp [evs,List.map_set]
          rw [e1]
          exact List.getElem?_set_self (get_lt hb8)
        · simp (disch:=omega) only [zA,zB,zC,zD,zF,zG,zH,↓reduceIte,hiN2]
          exact hJ3 _ ⟨hp8,xs,hxs,hb8⟩
      · rintro H10 ⟨hp10,xs2,hxs2,hb10⟩
        have hpp:=hp6.trans hp10
        have hr:Row H10 (.slice (some ⟨H6.length,0,none⟩) N N) (evs cd xs2):=Row.of hb10 (by rw [List.length_map,hxs2]) (Nat.le_refl _)
        obtain⟨out',H12,e1,ho',hp',_⟩:=(ho.pre hp10).app1 (by_:=24) hpp.len hr (evs_plain _) (by simp;omega) (by simp;omega) (e2:=31)
        simp (disch:=(first|omega|(simp only [stLen]<;>omega)|(simp only [all_nv];done)|rfl)) only [zA,zB,zC,zD,zF,zG,zH,Nat.reduceEqDiff,Nat.reduceLT,Nat.reduceLeDiff,↓reduceIte,e1]
        refine hJ _ _ _ ⟨rfl,hp' hpp,xss++[xs2],by simp [hxl],fun x hx=>?_,by simpa using ho'⟩
        rcases List.mem_append.1 hx with h|h
        · exact hxw x h
        · rw [List.mem_singleton.1 h];exact hxs2
  · rintro out i' H6 ⟨rfl,hp6,xss,hxl,hxw,ho⟩ J
    simp (disch:=omega) only [zA,zB,zC,zD,zF,zG,zH,↓reduceIte]
    refine FZ.mono (over_c Q) ?_
    rintro _ H15 ⟨hp15,b,rfl,hb⟩
    have hR:=ho.rowR.pre hp15
    refine FZ.mono (rreduce_c (Q.ok b) hb hR hxw (by omega) (by omega) hN1) ?_
    rintro w H16 ⟨hp16,hw⟩
    have hpp:=hp6.trans (hp15.trans hp16)
    have gc16:=hpp.get gc
    have s9:=stB_three (H:=H16) (bl:=H.length+1) (x:=nv q) (y:=nv N) (z:=w) (c0:=nv 0) (c1:=nv 0) (c2:=.slice none 0 0) (e:=29) (op:=none) rfl rfl hw.one
    have g9:(H16.set (H.length+1) (AB.cells [nv q,nv N,w] 29 none false))[H.length+1]? = some (.cells [nv q,nv N,w] 29 none false):=List.getElem?_set_self (get_lt gc16)
    have hf:=hw.fill
    simp (disch:=(first|omega|(simp only [stLen]<;>omega)|(simp only [all_nv];done)|rfl)) only [zA,zB,zC,zD,zF,zG,zH,Nat.reduceEqDiff,Nat.reduceLT,Nat.reduceLeDiff,↓reduceIte,hf,gc16,s9,g9]
    obtain⟨d1,_,d3⟩:=lreduce_red hxw
    have hl15:=(hp6.trans hp15).len
    exact⟨(hX0.trans hpp).set (by omega) _,w,lreduce xss,rfl,d1,by omega,(hw.setLow (by omega)).mono (by omega)⟩
theorem made2_c {j:Nat} (Q:FQ α cd p e (Pf.ordM j) blk) {x:Value} {us:List Nat} {k n m:Nat} (hk:k % 6=j) (hm:m<256) (hus:∀ u∈us,u<256) (hx:Row H x (us.map bv)) :
    FN Tryz.prog 12 [rawv k n m x] H (fun r H'=>Pre H H'∧∃ w A,r=codv (Pf.ordM j) (1+n % 10) w∧LRed (1+n % 10) A∧A.length≤mostM j∧Lw.RowLo H.length H' w (evr cd A)):=
  (made3_c Q hk hm hus hx).mono fun _ _ ⟨h1,w,A,e,h2,h3,h4⟩=>⟨h1,w,A,e,h2,Nat.le_of_lt_succ (Nat.lt_of_le_of_lt h3 (Nat.mod_lt _ (Nat.succ_pos _))),h4⟩
theorem outer_c (Q:FQ α cd p e (Pf.ordM 2) blk) {x:Value} {us:List Nat} {k n m:Nat} (hm:m<256) (hus:∀ u∈us,u<256) (hx:Row H x (us.map bv)) :
    FN Tryz.prog 32 [rawv k n m x] H (fun r H'=>Pre H H'∧∃ w A,r=codv 4 (1+n % 4) w∧LRed (1+n % 4) A∧A.length≤4∧Lw.RowLo H.length H' w (evr cd A)):=by
  refine g32_of ?_
  unfold g32
  have hxo:=hx.one
  have hxc:=hx.cells
  have r4:xbin .rem 0 (bv n) (.int .u8 4)=some (bv (n % 4)):=rem8 (m:=4) (by decide)
  have s1:=stB_one (c:=[bv k,bv n,bv m,x]) (e:=24) (op:=none) (H:=H++[.cells [bv k,bv n,bv m,x] 24 none false,.cells [nv 0,nv 0,.slice none 0 0] 29 none false]) (bl:=H.length) (o:=0) (v:=.int .u8 2) rfl rfl (by simp)
  have e1:(H++[AB.cells [bv k,bv n,bv m,x] 24 none false,AB.cells [nv 0,nv 0,.slice none 0 0] 29 none false]).set H.length (AB.cells ([bv k,bv n,bv m,x].set 0 (.int .u8 2)) 24 none false)=H++[AB.cells [bv 2,bv n,bv m,x] 24 none false,AB.cells [nv 0,nv 0,.slice none 0 0] 29 none false]:=by
    rw [List.set_append_right _ _ (by omega)];simp
  rw [e1] at s1
  have s2:=stB_one (c:=[bv 2,bv n,bv m,x]) (e:=24) (op:=none) (H:=H++[.cells [bv 2,bv n,bv m,x] 24 none false,.cells [nv 0,nv 0,.slice none 0 0] 29 none false]) (bl:=H.length) (o:=1) (v:=bv (n % 4)) rfl rfl (by simp)
  have e2:(H++[AB.cells [bv 2,bv n,bv m,x] 24 none false,AB.cells [nv 0,nv 0,.slice none 0 0] 29 none false]).set H.length (AB.cells ([bv 2,bv n,bv m,x].set 1 (bv (n % 4))) 24 none false)=H++[AB.cells [bv 2,bv (n % 4),bv m,x] 24 none false,AB.cells [nv 0,nv 0,.slice none 0 0] 29 none false]:=by
    rw [List.set_append_right _ _ (by omega)];simp
  rw [e2] at s2
  simp (disch:=omega) only [zA,zB,zC,zD,zF,zG,zH,↓reduceIte,hxc,s1,r4,s2]
  have hX:=Pre.new H [.cells [bv 2,bv (n % 4),bv m,x] 24 none false,.cells [nv 0,nv 0,.slice none 0 0] 29 none false]
  refine FZ.mono (made2_c Q (k:=2) (n:=n % 4) rfl hm hus (hx.pre hX)) ?_
  rintro _ H5 ⟨hp5,w,A,rfl,hA,hAl,hw⟩
  have en:1+n % 4 % 10=1+n % 4:=by omega
  rw [en] at hA ⊢
  have eq4:Pf.ordM 2=4:=rfl
  rw [eq4]
  have gc:H5[H.length+1]? = some (.cells [nv 0,nv 0,.slice none 0 0] 29 none false):=hp5.get (by simp)
  have s9:=stB_three (H:=H5) (bl:=H.length+1) (x:=nv 4) (y:=nv (1+n % 4)) (z:=w) (c0:=nv 0) (c1:=nv 0) (c2:=.slice none 0 0) (e:=29) (op:=none) rfl rfl hw.one
  have g9:(H5.set (H.length+1) (.cells [nv 4,nv (1+n % 4),w] 29 none false))[H.length+1]? = some (.cells [nv 4,nv (1+n % 4),w] 29 none false):=List.getElem?_set_self (get_lt gc)
  simp (disch:=omega) only [zA,zB,zC,zD,zF,zG,zH,↓reduceIte,gc,s9,g9]
  exact⟨(hX.trans hp5).set (by omega) _,w,A,rfl,hA,hAl,(hw.setLow (by simp)).mono (by simp)⟩
theorem given_c (F:FOK α cd p e b c 2 blk) {v:Value} {us:List Nat} {n:Nat} (hus:∀ u∈us,u<256) (hv:Row H v (us.map bv)) (hn:n≤1000) :
    FN Tryz.prog 79 [nv 2,nv n,v] H (fun r H'=>r=.slice (some ⟨H.length,0,none⟩) n n∧∃ xs:List α,xs.length=n∧H'=H++[.cells (evs cd xs) 3 none false]):=by
  refine g79_of ?_
  unfold g79
  refine FZ.use (zero_c hn) ?_
  refine loopV1.nat n (fun i j H'=>j=nv i∧∃ xs:List α,xs.length=n∧H'=H++[.cells (evs cd xs) 3 none false]) ⟨rfl,List.replicate n Fl.zero,by simp,by rw [zeros_ev F]⟩ ?_ ?_
  · rintro i j _ hi ⟨rfl,xs,hxs,rfl⟩ J hJ
    have hp:=Pre.new H [.cells (evs cd xs) 3 none false]
    have hv8:=hv.pre hp
    have vl:=hv8.len
    rw [List.length_map] at vl
    by_cases hil:i<us.length
    · have vi:=hv8.ix (k:=i) (by rw [List.length_map];exact hil)
      have ld:=bv_ld hv8 hil
      have hu:=getD_lt hus hil
      have cv:xpure (.conv .i64) [bv (us.getD i 0)]=some (nv (us.getD i 0)):=xp_convN (by omega)
      obtain⟨y,hy⟩:=F.sur (us.getD i 0 % 2) (Nat.mod_lt _ (by omega))
      have h2:¬(2:Nat)=0:=by decide
      have st:=st_ev (cd:=cd) (H:=H++[.cells (evs cd xs) 3 none false]) (bl:=H.length) (k:=i) (xs:=xs) (x:=y) (t:=3) (op:=none) (by simp) (by omega)
      rw [set_last,hy] at st
      simp (disch:=omega) only [zA,zB,zC,zD,zF,zG,zH,↓reduceIte,hi,vl,hil,vi,ld,cv,h2,st]
      exact hJ _ _ ⟨rfl,xs.set i y,by rw [List.length_set];exact hxs,rfl⟩
    · simp (disch:=omega) only [zA,zB,zC,zD,zF,zG,zH,↓reduceIte,hi,vl,hil]
      exact⟨xs,hxs,rfl⟩
  · rintro j _ ⟨rfl,xs,hxs,rfl⟩ J
    simp (disch:=omega) only [zA,zB,zC,zD,zF,zG,zH,↓reduceIte]
    exact⟨xs,hxs,rfl⟩
theorem got_fill0 {q n:Nat} {w:Value} (h:isSl w=true):xfill [nv 0,nv 0,.slice none 0 0,nv 0] [(0,3)] [codv q n w]=some [nv q,nv n,w,nv 0]:=by
  cases w<;>simp [isSl] at h
  rfl
theorem span_c (Q:FQ α cd p e q blk) {v:Value} {n:Nat} {M:List (List α)} (hv:RowR H v (evr cd M)) (hl:∀ x∈M,x.length=n) (hM:M.length≤400) (hn:n≤1000) (hn0:0<n) :
    FN Tryz.prog 67 [nv q,nv n,v] H (RetG cd q n (lreduce M) H):=by
  refine g67_of ?_
  unfold g67
  have hX:=Pre.new H [.cells [nv 0,nv 0,.slice none 0 0,nv 0] 37 none false]
  refine FZ.mono (over_c Q) ?_
  rintro _ H2 ⟨hp2,b,rfl,hb⟩
  refine FZ.mono (rreduce_c (Q.ok b) hb (hv.pre (hX.trans hp2)) hl hM hn hn0) ?_
  rintro w H3 ⟨hp3,hw⟩
  have hpp:=hp2.trans hp3
  have g3:H3[H.length]? = some (.cells [nv 0,nv 0,.slice none 0 0,nv 0] 37 none false):=hpp.get (by simp)
  have f1:=codv_fill (q:=q) (n:=n) hw.isSl
  have f2:=got_fill0 (q:=q) (n:=n) hw.isSl
  have s6:=stB_four (H:=H3) (bl:=H.length) (x:=nv q) (y:=nv n) (z:=w) (u:=nv 0) (c0:=nv 0) (c1:=nv 0) (c2:=.slice none 0 0) (c3:=nv 0) (e:=37) (op:=none) rfl rfl hw.one rfl
  have g6:(H3.set H.length (.cells [nv q,nv n,w,nv 0] 37 none false))[H.length]? = some (.cells [nv q,nv n,w,nv 0] 37 none false):=List.getElem?_set_self (get_lt g3)
  simp (disch:=omega) only [zA,zB,zC,zD,zF,zG,zH,↓reduceIte,f1,f2,g3,s6,g6]
  have hl2:=hp2.len
  simp only [List.length_append,List.length_cons,List.length_nil] at hl2
  exact⟨(hX.trans hpp).set (Nat.le_refl _) _,w,rfl,(hw.setLow (by omega)).mono (by omega)⟩
theorem rows2 {H:AH} {bl:Nat} {v w:Value} {xs ys:List α} {n:Nat} (hb:H[bl]? = some (.cells [v,w] 31 none false)) (hv:Row H v (evs cd xs)) (hw:Row H w (evs cd ys)):RowR H (.slice (some ⟨bl,0,none⟩) 2 2) (evr cd [xs,ys]):=by
  refine⟨[v,w],(Row.of hb rfl (Nat.le_refl _)).x (by simp),⟨rfl,fun k hk=>?_⟩⟩
  simp at hk
  rcases k with _|_|k
  · exact hv
  · exact hw
  · omega
theorem inner_ind {N:Nat} {xa:List α} (hl:xa.length=N) (hN:2≤N) (h0:xa.getD 0 Fl.zero=Fl.one):(lreduce [xa,lunit N 1]).length=2:=by
  have hul:(lunit (α:=α) N 1).length=N:=by simp [lunit]
  have hw:∀ x∈[xa,lunit N 1],x.length=N:=by
    intro x hx
    simp only [List.mem_cons,List.not_mem_nil,or_false] at hx
    rcases hx with rfl|rfl
    · exact hl
    · exact hul
  rw [lreduce_indep hw]
  · rfl
  · intro k hk hs
    simp at hk
    rcases k with _|_|k
    · have:toV xa=vz:=by
        refine LSpan.sub (L:=([xa,lunit N 1]:List (List α)).take 0) (S:=fun u=>u=vz) rfl ?_ ?_ (by simp) hs
        · rintro _ _ rfl rfl;exact va_zero _
        · rintro c _ rfl;exact vs_vz c
      have:=congrFun this 0
      exact one_ne_zero' (h0.symm.trans this)
    · have key:∃ c,toV (lunit (α:=α) N 1)=vs c (toV xa):=by
        refine LSpan.sub (L:=([xa,lunit N 1]:List (List α)).take 1) (S:=fun u=>∃ c,u=vs c (toV xa)) ⟨Fl.zero,(vs_zero _).symm⟩ ?_ ?_ ?_ hs
        · rintro _ _ ⟨c,rfl⟩ ⟨d,rfl⟩;exact⟨Fl.add c d,(add_vs c d _).symm⟩
        · rintro a _ ⟨c,rfl⟩;exact⟨Fl.mul a c,vs_vs a c _⟩
        · intro x hx
          simp at hx
          rw [hx];exact⟨Fl.one,(vs_one _).symm⟩
      obtain⟨c,hc⟩:=key
      rw [toV_unit (by omega)] at hc
      have e0:=congrFun hc 0
      have e1:=congrFun hc 1
      have hx0:toV xa 0=Fl.one:=h0
      change (if (0:Nat)=1 then Fl.one else Fl.zero)=Fl.mul c (toV xa 0) at e0
      rw [if_neg (by omega),hx0,Fl.mul_one] at e0
      change (if (1:Nat)=1 then Fl.one else Fl.zero)=Fl.mul c (toV xa 1) at e1
      rw [if_pos rfl,←e0,Fl.zero_mul] at e1
      exact one_ne_zero' e1
    · omega
theorem inner_c (Q:FQ α cd p e 2 blk) {x:Value} {us:List Nat} {k n m:Nat} (hm:m<256) (hn:n<256) (hus:∀ u∈us,u<256) (hx:Row H x (us.map bv)) :
    FN Tryz.prog 33 [rawv k n m x] H (fun r H'=>Pre H H'∧∃ w B,r=codv 2 (2+n % 4) w∧LRed (2+n % 4) B∧B.length=2∧Lw.RowLo H.length H' w (evr cd B)):=by
  refine g33_of ?_
  unfold g33
  have hxo:=hx.one
  have hxc:=hx.cells
  have F:=Q.ok 0
  obtain⟨N,hN⟩:∃ N,N=2+n % 4:=⟨_,rfl⟩
  have hN2:2≤N∧N≤5:=by omega
  have c1:xpure (.conv .i64) [bv n]=some (nv n):=xp_convN (by omega)
  have h4:¬(4:Nat)=0:=by decide
  simp (disch:=omega) only [zA,zB,zC,zD,zF,zG,zH,↓reduceIte,hxc,c1,h4]
  rw [←hN]
  have hX:=Pre.new H [.cells [bv k,bv n,bv m,x] 24 none false,.cells [nv 0,nv 0,.slice none 0 0] 29 none false]
  obtain⟨HX,hHX⟩:∃ HX,HX=H++[.cells [bv k,bv n,bv m,x] 24 none false,.cells [nv 0,nv 0,.slice none 0 0] 29 none false]:=⟨_,rfl⟩
  have gx:HX[H.length]? = some (.cells [bv k,bv n,bv m,x] 24 none false):=by rw [hHX];simp
  have gr:HX[H.length+1]? = some (.cells [nv 0,nv 0,.slice none 0 0] 29 none false):=by rw [hHX];simp
  have hXl:HX.length=H.length+2:=by rw [hHX];simp
  rw [←hHX] at hX ⊢
  clear hHX
  refine FZ.mono (given_c F hus (hx.pre hX) (by omega)) ?_
  rintro _ _ ⟨rfl,xs,hxs,rfl⟩
  refine FZ.use (zero_c (by omega)) ?_
  have hpx:∀ (y1 y2:AB),Pre HX (HX++[y1,y2]):=fun y1 y2=>Pre.new HX [y1,y2]
  rw [zeros_ev F]
  have ix0:xpure (.ixS 1) [.slice (some ⟨HX.length,0,none⟩) N N,nv 0]=some (.pointer (some ⟨HX.length,0,none⟩)):=by rw [xp_ixSN (by omega)]
  have st1:=st_ev (cd:=cd) (H:=HX++[.cells (evs cd xs) 3 none false,.cells (evs cd (List.replicate N (Fl.zero:α))) 3 none false]) (bl:=HX.length) (k:=0) (xs:=xs) (x:=Fl.one) (t:=3) (op:=none) (by simp) (by omega)
  have e1:(HX++[AB.cells (evs cd xs) 3 none false,AB.cells (evs cd (List.replicate N (Fl.zero:α))) 3 none false]).set HX.length (AB.cells (evs cd (xs.set 0 Fl.one)) 3 none false)=HX++[AB.cells (evs cd (xs.set 0 Fl.one)) 3 none false,AB.cells (evs cd (List.replicate N (Fl.zero:α))) 3 none false]:=by
    rw [List.set_append_right _ _ (by omega)];simp
  rw [e1,F.one] at st1
  obtain⟨xa,hxa⟩:∃ xa,xa=xs.set 0 Fl.one:=⟨_,rfl⟩
  have hxal:xa.length=N:=by rw [hxa,List.length_set];exact hxs
  have hxa0:xa.getD 0 Fl.zero=Fl.one:=by rw [hxa,getD_set (by omega),if_pos rfl]
  rw [←hxa] at st1
  have g4:∀ (y1 y2:AB),(HX++[y1,y2])[H.length]? = some (.cells [bv k,bv n,bv m,x] 24 none false):=fun y1 y2=>(hpx y1 y2).get gx
  have gx4:=g4 (.cells (evs cd xa) 3 none false) (.cells (evs cd (List.replicate N (Fl.zero:α))) 3 none false)
  have c3:xpure (.conv .i64) [bv m]=some (nv m):=xp_convN (by omega)
  have hN1:1≤N:=by omega
  have hNz:¬N-1=0:=by omega
  obtain⟨i1,hi1⟩:∃ i1,i1=1+m % (N-1):=⟨_,rfl⟩
  have hi1N:i1<N:=by have:=Nat.mod_lt m (show 0<N-1 by omega);omega
  have ix1:xpure (.ixS 1) [.slice (some ⟨HX.length+1,0,none⟩) N N,nv i1]=some (.pointer (some ⟨HX.length+1,i1,none⟩)):=by rw [xp_ixSN hi1N];simp
  have st2:=st_ev (cd:=cd) (H:=HX++[.cells (evs cd xa) 3 none false,.cells (evs cd (List.replicate N (Fl.zero:α))) 3 none false]) (bl:=HX.length+1) (k:=i1) (xs:=List.replicate N (Fl.zero:α)) (x:=Fl.one) (t:=3) (op:=none) (by simp) (by simpa using hi1N)
  have e2:∀ zs ys:List α,(HX++[AB.cells (evs cd xa) 3 none false,AB.cells (evs cd zs) 3 none false]).set (HX.length+1) (AB.cells (evs cd ys) 3 none false)=HX++[AB.cells (evs cd xa) 3 none false,AB.cells (evs cd ys) 3 none false]:=fun zs ys=>by
    rw [List.set_append_right _ _ (by omega)];simp
  rw [e2,F.one] at st2
  rw [hi1] at ix1 st2
  simp (disch:=omega) only [zA,zB,zC,zD,zF,zG,zH,↓reduceIte,ix0,st1,gx4,c3,hN1,hNz,ix1,st2]
  rw [←hi1]
  refine joinV0.via (fun H'=>∃ xb:List α,xb.length=N∧H'=HX++[.cells (evs cd xa) 3 none false,.cells (evs cd xb) 3 none false]) ?_ ?_
  · intro J hJ
    have hxb0:((List.replicate N (Fl.zero:α)).set i1 Fl.one).length=N:=by simp
    obtain⟨xb0,hxb⟩:∃ xb0,xb0=(List.replicate N (Fl.zero:α)).set i1 Fl.one:=⟨_,rfl⟩
    rw [←hxb] at hxb0 ⊢
    have gx5:=g4 (.cells (evs cd xa) 3 none false) (.cells (evs cd xb0) 3 none false)
    have hv8:=hx.pre (hX.trans (hpx (.cells (evs cd xa) 3 none false) (.cells (evs cd xb0) 3 none false)))
    have vl:=hv8.len
    rw [List.length_map] at vl
    by_cases hu0:0<us.length
    · have vi:=hv8.ix (k:=0) (by rw [List.length_map];exact hu0)
      have ld:=bv_ld hv8 hu0
      have hu:=getD_lt hus hu0
      have cv:xpure (.conv .i64) [bv (us.getD 0 0)]=some (nv (us.getD 0 0)):=xp_convN (by omega)
      obtain⟨y,hy⟩:=F.sur (us.getD 0 0 / 2 % 2) (Nat.mod_lt _ (by omega))
      have h2:¬(2:Nat)=0:=by decide
      have hNN:N-1<N:=by omega
      have ix2:xpure (.ixS 1) [.slice (some ⟨HX.length+1,0,none⟩) N N,nv (N-1)]=some (.pointer (some ⟨HX.length+1,N-1,none⟩)):=by rw [xp_ixSN hNN];simp
      have st:=st_ev (cd:=cd) (H:=HX++[.cells (evs cd xa) 3 none false,.cells (evs cd xb0) 3 none false]) (bl:=HX.length+1) (k:=N-1) (xs:=xb0) (x:=y) (t:=3) (op:=none) (by simp) (by omega)
      rw [e2,hy] at st
      have hdl:us.getD 0 0 / 2<4611686018427387904:=by omega
      simp (disch:=omega) only [zA,zB,zC,zD,zF,zG,zH,↓reduceIte,gx5,vl,hu0,hN1,vi,ld,cv,h2,ix2,st]
      exact hJ _ ⟨xb0.set (N-1) y,by rw [List.length_set];exact hxb0,rfl⟩
    · simp (disch:=omega) only [zA,zB,zC,zD,zF,zG,zH,↓reduceIte,gx5,vl,hu0]
      exact hJ _ ⟨xb0,hxb0,rfl⟩
  rintro _ ⟨xb,hxb,rfl⟩
  have f1:xfill [.slice none 0 0,.slice none 0 0] [(0,1),(1,1)] [.slice (some ⟨HX.length,0,none⟩) N N,.slice (some ⟨HX.length+1,0,none⟩) N N]=some [.slice (some ⟨HX.length,0,none⟩) N N,.slice (some ⟨HX.length+1,0,none⟩) N N]:=rfl
  simp (disch:=omega) only [zA,zB,zC,zD,zF,zG,zH,↓reduceIte,f1]
  have hp9:=Pre.new HX [.cells (evs cd xa) 3 none false,.cells (evs cd xb) 3 none false,.cells [.slice (some ⟨HX.length,0,none⟩) N N,.slice (some ⟨HX.length+1,0,none⟩) N N] 31 none false]
  have ga9:(HX++[.cells (evs cd xa) 3 none false,.cells (evs cd xb) 3 none false,.cells [.slice (some ⟨HX.length,0,none⟩) N N,.slice (some ⟨HX.length+1,0,none⟩) N N] 31 none false])[HX.length]? = some (.cells (evs cd xa) 3 none false):=by simp
  obtain⟨H9,hH9⟩:∃ H9,H9=HX++[.cells (evs cd xa) 3 none false,.cells (evs cd xb) 3 none false,.cells [.slice (some ⟨HX.length,0,none⟩) N N,.slice (some ⟨HX.length+1,0,none⟩) N N] 31 none false]:=⟨_,rfl⟩
  have hRR:RowR H9 (.slice (some ⟨HX.length+2,0,none⟩) 2 2) (evr cd [xa,xb]):=by
    rw [hH9]
    exact rows2 (n:=N) (v:=.slice (some ⟨HX.length,0,none⟩) N N) (w:=.slice (some ⟨HX.length+1,0,none⟩) N N) (by simp) (Row.of (b:=HX.length) (e:=3) (op:=none) (r:=false) (by simp) (by rw [List.length_map,hxal]) (Nat.le_refl _)) (Row.of (b:=HX.length+1) (e:=3) (op:=none) (r:=false) (by simp) (by rw [List.length_map,hxb]) (Nat.le_refl _))
  have hl9:H9.length=HX.length+3:=by rw [hH9];simp
  rw [←hH9] at hp9 ga9 ⊢
  clear hH9
  have hw2:∀ z∈[xa,xb],z.length=N:=by
    intro z hz
    simp only [List.mem_cons,List.not_mem_nil,or_false] at hz
    rcases hz with rfl|rfl
    · exact hxal
    · exact hxb
  refine FZ.mono (span_c Q hRR hw2 (by simp) (by omega) (by omega)) ?_
  rintro _ H10 ⟨hp10,w,rfl,hw⟩
  obtain⟨hr1,_,hr3⟩:=lreduce_red hw2
  have pc:∀ q n (v:Value) er,xpure (.prt (some 3) 0) [gotv q n v er]=some (codv q n v):=fun _ _ _ _=>rfl
  have s12:=stB_three (H:=H10++[.cells [nv 0,nv 0,.slice none 0 0] 29 none false]) (bl:=H10.length) (x:=nv 2) (y:=nv N) (z:=w) (c0:=nv 0) (c1:=nv 0) (c2:=.slice none 0 0) (e:=29) (op:=none) rfl rfl hw.one
  rw [set_last] at s12
  simp (disch:=omega) only [zA,zB,zC,zD,zF,zG,zH,↓reduceIte,pc,s12]
  have hp12:=Pre.new H10 [.cells [nv 2,nv N,w] 29 none false]
  have gc12:(H10++[.cells [nv 2,nv N,w] 29 none false])[H10.length]? = some (.cells [nv 2,nv N,w] 29 none false):=by simp
  have hw12:=hw.pre hp12
  have hl12:(H10++[AB.cells [nv 2,nv N,w] 29 none false]).length=H10.length+1:=by simp
  obtain⟨H12,hH12⟩:∃ H12,H12=H10++[.cells [nv 2,nv N,w] 29 none false]:=⟨_,rfl⟩
  rw [←hH12] at hp12 gc12 hw12 hl12 ⊢
  clear hH12 s12
  have hpX12:=hp9.trans (hp10.trans hp12)
  have hl10:=hp10.len
  refine joinV0.via (fun H'=>Pre HX H'∧H10.length<H'.length∧∃ w B,H'[H10.length]? = some (.cells [nv 2,nv N,w] 29 none false)∧LRed N B∧B.length=2∧Lw.RowLo HX.length H' w (evr cd B)) ?_ ?_
  · intro J hJ
    obtain⟨vs,hvs,hvl,_⟩:=hw12.rowR.open
    obtain⟨vl,_,_,_⟩:=hvs.allV
    rw [hvl] at vl
    by_cases h2:(lreduce [xa,xb]).length<2
    · simp (disch:=omega) only [zA,zB,zC,zD,zF,zG,zH,↓reduceIte,gc12,vl,h2]
      refine FZ.use (zero_c (by omega)) ?_
      rw [zeros_ev F]
      have ix3:xpure (.ixS 1) [.slice (some ⟨H12.length,0,none⟩) N N,nv 1]=some (.pointer (some ⟨H12.length,1,none⟩)):=by rw [xp_ixSN (by omega)]
      have st3:=st_ev (cd:=cd) (H:=H12++[.cells (evs cd (List.replicate N (Fl.zero:α))) 3 none false]) (bl:=H12.length) (k:=1) (xs:=List.replicate N (Fl.zero:α)) (x:=Fl.one) (t:=3) (op:=none) (by simp) (by simp;omega)
      rw [set_last,F.one] at st3
      have f2:xfill [.slice none 0 0,.slice none 0 0] [(0,1),(1,1)] [.slice (some ⟨HX.length,0,none⟩) N N,.slice (some ⟨H12.length,0,none⟩) N N]=some [.slice (some ⟨HX.length,0,none⟩) N N,.slice (some ⟨H12.length,0,none⟩) N N]:=rfl
      simp (disch:=omega) only [zA,zB,zC,zD,zF,zG,zH,↓reduceIte,ix3,st3,f2]
      have hp15:=Pre.new H12 [.cells (evs cd (lunit (α:=α) N 1)) 3 none false,.cells [.slice (some ⟨HX.length,0,none⟩) N N,.slice (some ⟨H12.length,0,none⟩) N N] 31 none false]
      have eu:(H12++[AB.cells (evs cd ((List.replicate N (Fl.zero:α)).set 1 Fl.one)) 3 none false,AB.cells [.slice (some ⟨HX.length,0,none⟩) N N,.slice (some ⟨H12.length,0,none⟩) N N] 31 none false])=H12++[AB.cells (evs cd (lunit (α:=α) N 1)) 3 none false,AB.cells [.slice (some ⟨HX.length,0,none⟩) N N,.slice (some ⟨H12.length,0,none⟩) N N] 31 none false]:=rfl
      rw [eu]
      have ga12:=(hp10.trans hp12).get ga9
      have ga15:=hp15.get ga12
      have gc15:=hp15.get gc12
      have hul:(lunit (α:=α) N 1).length=N:=by simp [lunit]
      have hRR2:RowR (H12++[AB.cells (evs cd (lunit (α:=α) N 1)) 3 none false,AB.cells [.slice (some ⟨HX.length,0,none⟩) N N,.slice (some ⟨H12.length,0,none⟩) N N] 31 none false]) (.slice (some ⟨H12.length+1,0,none⟩) 2 2) (evr cd [xa,lunit N 1]):=
        rows2 (n:=N) (v:=.slice (some ⟨HX.length,0,none⟩) N N) (w:=.slice (some ⟨H12.length,0,none⟩) N N) (by simp) (Row.of ga15 (by rw [List.length_map,hxal]) (Nat.le_refl _)) (Row.of (b:=H12.length) (e:=3) (op:=none) (r:=false) (by simp) (by rw [List.length_map,hul]) (Nat.le_refl _))
      have hl15:(H12++[AB.cells (evs cd (lunit (α:=α) N 1)) 3 none false,AB.cells [.slice (some ⟨HX.length,0,none⟩) N N,.slice (some ⟨H12.length,0,none⟩) N N] 31 none false]).length=H12.length+2:=by simp
      obtain⟨H15,hH15⟩:∃ H15,H15=H12++[AB.cells (evs cd (lunit (α:=α) N 1)) 3 none false,AB.cells [.slice (some ⟨HX.length,0,none⟩) N N,.slice (some ⟨H12.length,0,none⟩) N N] 31 none false]:=⟨_,rfl⟩
      rw [←hH15] at hp15 gc15 hRR2 hl15 ⊢
      have hw3:∀ z∈[xa,lunit N 1],z.length=N:=by
        intro z hz
        simp only [List.mem_cons,List.not_mem_nil,or_false] at hz
        rcases hz with rfl|rfl
        · exact hxal
        · exact hul
      refine FZ.mono (span_c Q hRR2 hw3 (by simp) (by omega) (by omega)) ?_
      rintro _ H16 ⟨hp16,w16,rfl,hw16⟩
      have gc16:=hp16.get gc15
      have s17:=stB_three (H:=H16) (bl:=H10.length) (x:=nv 2) (y:=nv N) (z:=w16) (c0:=nv 2) (c1:=nv N) (c2:=w) (e:=29) (op:=none) rfl rfl hw16.one
      simp (disch:=omega) only [zA,zB,zC,zD,zF,zG,zH,↓reduceIte,pc,gc16,s17]
      have hl16:=hp16.len
      refine hJ _ ⟨(hpX12.trans (hp15.trans hp16)).set (by omega) _,by rw [List.length_set];omega,w16,_,List.getElem?_set_self (get_lt gc16),(lreduce_red hw3).1,inner_ind hxal hN2.1 hxa0,(hw16.setLow (by omega)).mono (by omega)⟩
    · simp (disch:=omega) only [zA,zB,zC,zD,zF,zG,zH,↓reduceIte,gc12,vl,h2]
      have h3:(lreduce [xa,xb]).length=2:=by simp at hr3;omega
      exact hJ _ ⟨hpX12,by omega,w,_,gc12,hr1,h3,hw12.mono (by omega)⟩
  rintro H18 ⟨hp18,hl18,w18,B,gc18,hB,hB2,hw18⟩
  have gr18:=hp18.get gr
  have s19:=stB_three (H:=H18) (bl:=H.length+1) (x:=nv 2) (y:=nv N) (z:=w18) (c0:=nv 0) (c1:=nv 0) (c2:=.slice none 0 0) (e:=29) (op:=none) rfl rfl hw18.one
  have g19:(H18.set (H.length+1) (.cells [nv 2,nv N,w18] 29 none false))[H.length+1]? = some (.cells [nv 2,nv N,w18] 29 none false):=List.getElem?_set_self (get_lt gr18)
  simp (disch:=omega) only [zA,zB,zC,zD,zF,zG,zH,↓reduceIte,gc18,gr18,s19,g19]
  exact⟨(hX.trans hp18).set (by omega) _,w18,B,rfl,hB,hB2,(hw18.setLow (by omega)).mono (by omega)⟩
end
section
variable {α β:Type} [Fl α] [Fl β] [DecidableEq α] [DecidableEq β] {cda:α→Nat} {cdb:β→Nat} {p e p2 e2:Nat} {blk blk2:AB} {H:AH}
theorem concat26_c (Q4:FQ α cda p e 4 blk) (Q2:FQ β cdb p2 e2 2 blk2) {two:α} (h2:cda two=2) {v w:Value} {n m:Nat} {A:List (List α)} {B:List (List β)} (rep:List α→List β)
    (hrep:∀ x:List α,(rep x).map cdb=repL m ((B.getD 0 []).map cdb) ((B.getD 1 []).map cdb) (x.map cda)) (hv:RowR H v (evr cda A)) (hw:RowR H w (evr cdb B)) (hA:∀ x∈A,x.length=n) (hB:∀ x∈B,x.length=m) (hB2:B.length=2) (hlA:A.length≤100) (hn0:0<n) (hm0:0<m) (hnm:n*m≤24) :
    FN Tryz.prog 26 [codv 4 n v,codv 2 m w] H (RetG cdb 2 (n*m) (lreduce ((lcat two A).map rep)) H):=by
  refine g26_of ?_
  unfold g26
  have ho:=hv.one'
  have ho2:=hw.one'
  simp (disch:=omega) only [zA,zB,zC,zD,zF,zG,zH,↓reduceIte,ho2]
  have hX:=Pre.new H [.cells [nv 4,nv n,v] 29 none false,.cells [nv 2,nv m,w] 29 none false,.cells [nv 0,nv 0,.slice none 0 0,nv 0] 37 none false]
  refine FZ.mono (mconcat_c Q4 Q2 h2 rep hrep (hv.pre hX) (hw.pre hX) hA hB hB2 hlA hn0 hm0 hnm) ?_
  rintro _ H3 ⟨hp3,w9,rfl,hw9⟩
  have s4:=stB_three (H:=H3++[.cells [nv 0,nv 0,.slice none 0 0] 29 none false]) (bl:=H3.length) (x:=nv 2) (y:=nv (n*m)) (z:=w9) (c0:=nv 0) (c1:=nv 0) (c2:=.slice none 0 0) (e:=29) (op:=none) rfl rfl hw9.one
  rw [set_last] at s4
  have hb3:H3[H.length+2]? = some (.cells [nv 0,nv 0,.slice none 0 0,nv 0] 37 none false):=hp3.get (by simp)
  have hb4:=get_app hb3 [.cells [nv 2,nv (n*m),w9] 29 none false]
  have s6:=stB_four (H:=H3++[.cells [nv 2,nv (n*m),w9] 29 none false]) (bl:=H.length+2) (x:=nv 2) (y:=nv (n*m)) (z:=w9) (u:=nv 0) (c0:=nv 0) (c1:=nv 0) (c2:=.slice none 0 0) (c3:=nv 0) (e:=37) (op:=none) rfl rfl hw9.one rfl
  have g6:((H3++[AB.cells [nv 2,nv (n*m),w9] 29 none false]).set (H.length+2) (AB.cells [nv 2,nv (n*m),w9,nv 0] 37 none false))[H.length+2]? = some (.cells [nv 2,nv (n*m),w9,nv 0] 37 none false):=List.getElem?_set_self (get_lt hb4)
  have f4:=fill_got (q:=2) (n:=n*m) (er:=0) hw9.isSl
  simp (disch:=omega) only [zA,zB,zC,zD,zF,zG,zH,↓reduceIte,s4,hb4,f4,s6,g6]
  refine⟨((hX.trans hp3).app _).set (by omega) _,w9,rfl,?_⟩
  exact ((hw9.pre (Pre.new H3 _)).setLow (by simp)).mono (by simp)
end
end Go.Sim
