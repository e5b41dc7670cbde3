/- Part of the proof: MpG, MpH, MpI. -/
import Derived.Test.YtbfpepbfpebmmaaGreatMRepMoYToMpF
import Derived.Test.YtbfpepbfpebmmaaGreatMRepMoO
set_option linter.all false
namespace Go.Sim
open Go Go.Proofs
section
variable {α:Type} [Fl α] [DecidableEq α] {cd:α→Nat} {p e b c q:Nat} {blk:AB} {H:AH}
theorem made2_c {j:Nat} (Q:FQ α cd p e (Pf.ordM j) blk) {x:Value} {us:List Nat} {k n m:Nat} (hk:k % 6=j) (hm:m<256) (hus:∀ u∈us,u<256) (hx:Row H x (us.map bv)) :
    FN Tryz.prog 12 [rawv k n m x] H (fun r H'=>Pre H H'∧∃ w A,r=codv (Pf.ordM j) (1+n % 10) w∧LRed (1+n % 10) A∧A.length≤mostM j∧Lw.RowLo H.length H' w (evr cd A)):=by
  refine g12_of ?_
  unfold g12
  have hj:j<6:=by omega
  obtain⟨hm8,hq8,hq2⟩:=most_le hj
  obtain⟨q,hq⟩:∃ q,q=Pf.ordM j:=⟨_,rfl⟩
  obtain⟨mo,hmo⟩:∃ mo,mo=mostM j:=⟨_,rfl⟩
  rw [←hq] at Q hq8 hq2 ⊢
  rw [←hmo] at hm8 ⊢
  have r6:xbin .rem 0 (bv k) (.int .u8 6)=some (bv j):=by rw [←hk];exact rem8 (m:=6) (by decide)
  have r10:xbin .rem 0 (bv n) (.int .u8 10)=some (bv (n % 10)):=rem8 (m:=10) (by decide)
  have c1:xpure (.conv .i64) [bv (n % 10)]=some (nv (n % 10)):=xp_convN (by omega)
  have c3:xpure (.conv .i64) [bv m]=some (nv m):=xp_convN (by omega)
  have hxo:=hx.one
  have hxc:=hx.cells
  obtain⟨N,hN⟩:∃ N,N=1+n % 10:=⟨_,rfl⟩
  have hN10:N≤10:=by omega
  have hN1:1≤N:=by omega
  have l6:=ld6 hj
  have l6':=ld6' hj
  rw [←hq] at l6
  rw [←hmo] at l6'
  simp (disch:=(first|omega|(simp only [stLen]<;>omega)|(simp only [all_nv];done)|rfl)) only [zA,zB,zC,zD,zF,zG,zH,Nat.reduceEqDiff,Nat.reduceLT,Nat.reduceLeDiff,↓reduceIte,r6,r10,c1,c3,ix6,hj,l6,l6']
  rw [←hN]
  obtain⟨kk,hkk⟩:∃ kk,kk=m % (mo+1):=⟨_,rfl⟩
  have hkk8:kk≤8:=by have:=Nat.mod_lt m (show 0<mo+1 by omega);omega
  have hkm:kk≤mo:=by rw [hkk];exact Nat.le_of_lt_succ (Nat.mod_lt _ (Nat.succ_pos _))
  rw [←hkk]
  have hX0:=Pre.new H [.cells [bv k,bv n,bv m,x] 24 none false,.cells [nv 0,nv 0,.slice none 0 0] 29 none false,.cells [nv 2,nv 3,nv 4,nv 5,nv 7,nv 8] 3 none false,.cells [nv 8,nv 5,nv 4,nv 3,nv 2,nv 2] 3 none false]
  obtain⟨HX,hHX⟩:∃ HX,HX=H++[.cells [bv k,bv n,bv m,x] 24 none false,.cells [nv 0,nv 0,.slice none 0 0] 29 none false,.cells [nv 2,nv 3,nv 4,nv 5,nv 7,nv 8] 3 none false,.cells [nv 8,nv 5,nv 4,nv 3,nv 2,nv 2] 3 none false]:=⟨_,rfl⟩
  have hXl:HX.length=H.length+4:=by rw [hHX];simp
  have gx:HX[H.length]? = some (.cells [bv k,bv n,bv m,x] 24 none false):=by rw [hHX];simp
  have gc:HX[H.length+1]? = some (.cells [nv 0,nv 0,.slice none 0 0] 29 none false):=by rw [hHX];simp
  have hsp:H++[.cells [bv k,bv n,bv m,x] 24 none false,.cells [nv 0,nv 0,.slice none 0 0] 29 none false,.cells [nv 2,nv 3,nv 4,nv 5,nv 7,nv 8] 3 none false,.cells [nv 8,nv 5,nv 4,nv 3,nv 2,nv 2] 3 none false,.cells [] 31 none false]=HX++[.cells [] 31 none false]:=by rw [hHX];simp
  have hsl:H.length+4=HX.length:=hXl.symm
  rw [←hHX] at hX0
  rw [hsp]
  refine loopV2.nat kk (fun i out i' H'=>i'=nv i∧Pre HX H'∧∃ xss:List (List α),xss.length=i∧(∀ x∈xss,x.length=N)∧AccR HX H' out (evr cd xss) 31) ⟨rfl,Pre.new _ _,[],rfl,by simp,?_⟩ ?_ ?_
  · have:=AccR.new (H0:=HX) (H:=HX) (Nat.le_refl _) (e:=31) (Y:=[])
    rw [hXl] at this
    exact this
  · rintro i out i' H6 hi ⟨rfl,hp6,xss,hxl,hxw,ho⟩ J hJ
    simp (disch:=(first|omega|(simp only [stLen]<;>omega)|(simp only [all_nv];done)|rfl)) only [zA,zB,zC,zD,zF,zG,zH,Nat.reduceEqDiff,Nat.reduceLT,Nat.reduceLeDiff,↓reduceIte,hi]
    refine FZ.use (zero_c (by omega)) ?_
    have h7:=Pre.new H6 [.cells ((List.replicate N 0).map nv) 3 none false]
    have hiN:i*N≤80:=Nat.mul_le_mul (show i≤8 by omega) hN10
    refine loopV1.nat N (fun jj j' H'=>j'=nv jj∧Pre H6 H'∧∃ xs:List α,xs.length=N∧H'[H6.length]? = some (.cells (evs cd xs) 3 none false)) ⟨rfl,h7,List.replicate N Fl.zero,by simp,?_⟩ ?_ ?_
    · rw [evs_zeros (Q.ok 0)];simp
    · rintro jj j' H8 hjj ⟨rfl,hp8,xs,hxs,hb8⟩ J2 hJ2
      have hpp:=hp6.trans hp8
      have gx8:=hpp.get gx
      have hv8:=hx.pre (hX0.trans hpp)
      have vl:=hv8.len
      rw [List.length_map] at vl
      simp (disch:=(first|omega|(simp only [stLen]<;>omega)|(simp only [all_nv];done)|rfl)) only [zA,zB,zC,zD,zF,zG,zH,Nat.reduceEqDiff,Nat.reduceLT,Nat.reduceLeDiff,↓reduceIte,hjj]
      refine joinV0.via (fun H'=>Pre H6 H'∧∃ xs:List α,xs.length=N∧H'[H6.length]? = some (.cells (evs cd xs) 3 none false)) ?_ ?_
      · intro J3 hJ3
        by_cases h0:us.length=0
        · have h0':¬0<us.length:=by omega
          simp (disch:=(first|omega|(simp only [stLen]<;>omega)|(simp only [all_nv];done)|rfl)) only [zA,zB,zC,zD,zF,zG,zH,Nat.reduceEqDiff,Nat.reduceLT,Nat.reduceLeDiff,↓reduceIte,gx8,vl,h0']
          exact hJ3 _ ⟨hp8,xs,hxs,hb8⟩
        · have hpos:0<us.length:=by omega
          obtain⟨t,ht⟩:∃ t,t=(i*N+jj) % us.length:=⟨_,rfl⟩
          have htl:t<us.length:=by rw [ht];exact Nat.mod_lt _ hpos
          have vi:=hv8.ix (k:=t) (by rw [List.length_map];exact htl)
          have ld:=bv_ld hv8 htl
          have hu:=getD_lt hus htl
          have cv:xpure (.conv .i64) [bv (us.getD t 0)]=some (nv (us.getD t 0)):=xp_convN (by omega)
          obtain⟨y,hy⟩:=(Q.ok 0).sur (us.getD t 0 % q) (Nat.mod_lt _ (by omega))
          have hq0:0<q:=by omega
          have st:=stB_one (c:=evs cd xs) (e:=3) (op:=none) (H:=H8) (bl:=H6.length) (o:=jj) (v:=nv (us.getD t 0 % q)) rfl rfl (by rw [List.length_map];omega)
          rw [ht] at vi ld cv st
          simp (disch:=(first|omega|(simp only [stLen]<;>omega)|(simp only [all_nv];done)|rfl)) only [zA,zB,zC,zD,zF,zG,zH,Nat.reduceEqDiff,Nat.reduceLT,Nat.reduceLeDiff,↓reduceIte,gx8,vl,hpos,vi,ld,cv,hq0,hjj,hb8,st]
          refine hJ3 _ ⟨hp8.set (Nat.le_refl _) _,xs.set jj y,by rw [List.length_set];exact hxs,?_⟩
          have e1:evs cd (xs.set jj y)=(evs cd xs).set jj (nv (us.getD t 0 % q)):=by rw [←hy];simp [evs,List.map_set]
          rw [e1,ht]
          exact List.getElem?_set_self (get_lt hb8)
      · rintro H10 ⟨hp10,xs2,hxs2,hb10⟩
        simp (disch:=(first|omega|(simp only [stLen]<;>omega)|(simp only [all_nv];done)|rfl)) only [zA,zB,zC,zD,zF,zG,zH,Nat.reduceEqDiff,Nat.reduceLT,Nat.reduceLeDiff,↓reduceIte]
        exact hJ2 _ _ ⟨rfl,hp10,xs2,hxs2,hb10⟩
    · rintro j' H8 ⟨rfl,hp8,xs,hxs,hb8⟩ J2
      simp (disch:=(first|omega|(simp only [stLen]<;>omega)|(simp only [all_nv];done)|rfl)) only [zA,zB,zC,zD,zF,zG,zH,Nat.reduceEqDiff,Nat.reduceLT,Nat.reduceLeDiff,↓reduceIte]
      refine joinV0.via (fun H'=>Pre H6 H'∧∃ xs:List α,xs.length=N∧H'[H6.length]? = some (.cells (evs cd xs) 3 none false)) ?_ ?_
      · intro J3 hJ3
        by_cases hiN2:i<N
        · have st:=stB_one (c:=evs cd xs) (e:=3) (op:=none) (H:=H8) (bl:=H6.length) (o:=i) (v:=nv 1) rfl rfl (by rw [List.length_map];omega)
          simp (disch:=(first|omega|(simp only [stLen]<;>omega)|(simp only [all_nv];done)|rfl)) only [zA,zB,zC,zD,zF,zG,zH,Nat.reduceEqDiff,Nat.reduceLT,Nat.reduceLeDiff,↓reduceIte,hiN2,hb8,st]
          refine hJ3 _ ⟨hp8.set (Nat.le_refl _) _,xs.set i Fl.one,by rw [List.length_set];exact hxs,?_⟩
          have e1:evs cd (xs.set i Fl.one)=(evs cd xs).set i (nv 1):=by rw [←(Q.ok 0).one];simp [evs,List.map_set]
          rw [e1]
          exact List.getElem?_set_self (get_lt hb8)
        · simp (disch:=(first|omega|(simp only [stLen]<;>omega)|(simp only [all_nv];done)|rfl)) only [zA,zB,zC,zD,zF,zG,zH,Nat.reduceEqDiff,Nat.reduceLT,Nat.reduceLeDiff,↓reduceIte,hiN2]
          exact hJ3 _ ⟨hp8,xs,hxs,hb8⟩
      · rintro H10 ⟨hp10,xs2,hxs2,hb10⟩
        have hpp:=hp6.trans hp10
        have hr:Row H10 (.slice (some ⟨H6.length,0,none⟩) N N) (evs cd xs2):=Row.of hb10 (by rw [List.length_map,hxs2]) (Nat.le_refl _)
        obtain⟨out',H12,e1,ho',hp',_⟩:=(ho.pre hp10).app1 (by_:=24) hpp.len hr (evs_plain _) (by simp;omega) (by simp;omega) (e2:=31)
        simp (disch:=(first|omega|(simp only [stLen]<;>omega)|(simp only [all_nv];done)|rfl)) only [zA,zB,zC,zD,zF,zG,zH,Nat.reduceEqDiff,Nat.reduceLT,Nat.reduceLeDiff,↓reduceIte,e1]
        refine hJ _ _ _ ⟨rfl,hp' hpp,xss++[xs2],by simp [hxl],fun x hx=>?_,by simpa using ho'⟩
        rcases List.mem_append.1 hx with h|h
        · exact hxw x h
        · rw [List.mem_singleton.1 h];exact hxs2
  · rintro out i' H6 ⟨rfl,hp6,xss,hxl,hxw,ho⟩ J
    simp (disch:=(first|omega|(simp only [stLen]<;>omega)|(simp only [all_nv];done)|rfl)) only [zA,zB,zC,zD,zF,zG,zH,Nat.reduceEqDiff,Nat.reduceLT,Nat.reduceLeDiff,↓reduceIte]
    refine FZ.mono (over_c Q) ?_
    rintro _ H15 ⟨hp15,b,rfl,hb⟩
    have hR:=ho.rowR.pre hp15
    refine FZ.mono (rreduce_c (Q.ok b) hb hR hxw (by omega) (by omega) hN1) ?_
    rintro w H16 ⟨hp16,hw⟩
    have hpp:=hp6.trans (hp15.trans hp16)
    have gc16:=hpp.get gc
    have s9:=stB_three (H:=H16) (bl:=H.length+1) (x:=nv q) (y:=nv N) (z:=w) (c0:=nv 0) (c1:=nv 0) (c2:=.slice none 0 0) (e:=29) (op:=none) rfl rfl hw.one
    have g9:(H16.set (H.length+1) (AB.cells [nv q,nv N,w] 29 none false))[H.length+1]? = some (.cells [nv q,nv N,w] 29 none false):=List.getElem?_set_self (get_lt gc16)
    have hf:=hw.fill
    simp (disch:=(first|omega|(simp only [stLen]<;>omega)|(simp only [all_nv];done)|rfl)) only [zA,zB,zC,zD,zF,zG,zH,Nat.reduceEqDiff,Nat.reduceLT,Nat.reduceLeDiff,↓reduceIte,hf,gc16,s9,g9]
    obtain⟨d1,_,d3⟩:=lreduce_red hxw
    have hl15:=(hp6.trans hp15).len
    exact⟨(hX0.trans hpp).set (by omega) _,w,lreduce xss,rfl,d1,by omega,(hw.setLow (by omega)).mono (by omega)⟩
theorem outer_c (Q:FQ α cd p e (Pf.ordM 2) blk) {x:Value} {us:List Nat} {k n m:Nat} (hm:m<256) (hus:∀ u∈us,u<256) (hx:Row H x (us.map bv)) :
    FN Tryz.prog 32 [rawv k n m x] H (fun r H'=>Pre H H'∧∃ w A,r=codv 4 (1+n % 4) w∧LRed (1+n % 4) A∧A.length≤4∧Lw.RowLo H.length H' w (evr cd A)):=by
  refine g32_of ?_
  unfold g32
  have hxo:=hx.one
  have hxc:=hx.cells
  have r4:xbin .rem 0 (bv n) (.int .u8 4)=some (bv (n % 4)):=rem8 (m:=4) (by decide)
  have s1:=stB_one (c:=[bv k,bv n,bv m,x]) (e:=24) (op:=none) (H:=H++[.cells [bv k,bv n,bv m,x] 24 none false,.cells [nv 0,nv 0,.slice none 0 0] 29 none false]) (bl:=H.length) (o:=0) (v:=.int .u8 2) rfl rfl (by simp)
  have e1:(H++[AB.cells [bv k,bv n,bv m,x] 24 none false,AB.cells [nv 0,nv 0,.slice none 0 0] 29 none false]).set H.length (AB.cells ([bv k,bv n,bv m,x].set 0 (.int .u8 2)) 24 none false)=H++[AB.cells [bv 2,bv n,bv m,x] 24 none false,AB.cells [nv 0,nv 0,.slice none 0 0] 29 none false]:=by
    rw [List.set_append_right _ _ (by omega)];simp
  rw [e1] at s1
  have s2:=stB_one (c:=[bv 2,bv n,bv m,x]) (e:=24) (op:=none) (H:=H++[.cells [bv 2,bv n,bv m,x] 24 none false,.cells [nv 0,nv 0,.slice none 0 0] 29 none false]) (bl:=H.length) (o:=1) (v:=bv (n % 4)) rfl rfl (by simp)
  have e2:(H++[AB.cells [bv 2,bv n,bv m,x] 24 none false,AB.cells [nv 0,nv 0,.slice none 0 0] 29 none false]).set H.length (AB.cells ([bv 2,bv n,bv m,x].set 1 (bv (n % 4))) 24 none false)=H++[AB.cells [bv 2,bv (n % 4),bv m,x] 24 none false,AB.cells [nv 0,nv 0,.slice none 0 0] 29 none false]:=by
    rw [List.set_append_right _ _ (by omega)];simp
  rw [e2] at s2
  simp (disch:=(first|omega|(simp only [stLen]<;>omega)|(simp only [all_nv];done)|rfl)) only [zA,zB,zC,zD,zF,zG,zH,Nat.reduceEqDiff,Nat.reduceLT,Nat.reduceLeDiff,↓reduceIte,hxc,s1,r4,s2]
  have hX:=Pre.new H [.cells [bv 2,bv (n % 4),bv m,x] 24 none false,.cells [nv 0,nv 0,.slice none 0 0] 29 none false]
  refine FZ.mono (made2_c Q (k:=2) (n:=n % 4) rfl hm hus (hx.pre hX)) ?_
  rintro _ H5 ⟨hp5,w,A,rfl,hA,hAl,hw⟩
  have en:1+n % 4 % 10=1+n % 4:=by omega
  rw [en] at hA ⊢
  have eq4:Pf.ordM 2=4:=rfl
  rw [eq4]
  have gc:H5[H.length+1]? = some (.cells [nv 0,nv 0,.slice none 0 0] 29 none false):=hp5.get (by simp)
  have s9:=stB_three (H:=H5) (bl:=H.length+1) (x:=nv 4) (y:=nv (1+n % 4)) (z:=w) (c0:=nv 0) (c1:=nv 0) (c2:=.slice none 0 0) (e:=29) (op:=none) rfl rfl hw.one
  have g9:(H5.set (H.length+1) (.cells [nv 4,nv (1+n % 4),w] 29 none false))[H.length+1]? = some (.cells [nv 4,nv (1+n % 4),w] 29 none false):=List.getElem?_set_self (get_lt gc)
  simp (disch:=(first|omega|(simp only [stLen]<;>omega)|(simp only [all_nv];done)|rfl)) only [zA,zB,zC,zD,zF,zG,zH,Nat.reduceEqDiff,Nat.reduceLT,Nat.reduceLeDiff,↓reduceIte,gc,s9,g9]
  exact⟨(hX.trans hp5).set (by omega) _,w,A,rfl,hA,hAl,(hw.setLow (by simp)).mono (by simp)⟩
theorem given_c (F:FOK α cd p e b c 2 blk) {v:Value} {us:List Nat} {n:Nat} (hus:∀ u∈us,u<256) (hv:Row H v (us.map bv)) (hn:n≤1000) :
    FN Tryz.prog 79 [nv 2,nv n,v] H (fun r H'=>r=.slice (some ⟨H.length,0,none⟩) n n∧∃ xs:List α,xs.length=n∧H'=H++[.cells (evs cd xs) 3 none false]):=by
  refine g79_of ?_
  unfold g79
  refine FZ.use (zero_c hn) ?_
  refine loopV1.nat n (fun i j H'=>j=nv i∧∃ xs:List α,xs.length=n∧H'=H++[.cells (evs cd xs) 3 none false]) ⟨rfl,List.replicate n Fl.zero,by simp,by rw [zeros_ev F]⟩ ?_ ?_
  · rintro i j _ hi ⟨rfl,xs,hxs,rfl⟩ J hJ
    have hp:=Pre.new H [.cells (evs cd xs) 3 none false]
    have hv8:=hv.pre hp
    have vl:=hv8.len
    rw [List.length_map] at vl
    by_cases hil:i<us.length
    · have vi:=hv8.ix (k:=i) (by rw [List.length_map];exact hil)
      have ld:=bv_ld hv8 hil
      have hu:=getD_lt hus hil
      have cv:xpure (.conv .i64) [bv (us.getD i 0)]=some (nv (us.getD i 0)):=xp_convN (by omega)
      obtain⟨y,hy⟩:=F.sur (us.getD i 0 % 2) (Nat.mod_lt _ (by omega))
      have h2:¬(2:Nat)=0:=by decide
      have st:=st_ev (cd:=cd) (H:=H++[.cells (evs cd xs) 3 none false]) (bl:=H.length) (k:=i) (xs:=xs) (x:=y) (t:=3) (op:=none) (by simp) (by omega)
      rw [set_last,hy] at st
      simp (disch:=(first|omega|(simp only [stLen]<;>omega)|(simp only [all_nv];done)|rfl)) only [zA,zB,zC,zD,zF,zG,zH,Nat.reduceEqDiff,Nat.reduceLT,Nat.reduceLeDiff,↓reduceIte,hi,vl,hil,vi,ld,cv,h2,st]
      exact hJ _ _ ⟨rfl,xs.set i y,by rw [List.length_set];exact hxs,rfl⟩
    · simp (disch:=(first|omega|(simp only [stLen]<;>omega)|(simp only [all_nv];done)|rfl)) only [zA,zB,zC,zD,zF,zG,zH,Nat.reduceEqDiff,Nat.reduceLT,Nat.reduceLeDiff,↓reduceIte,hi,vl,hil]
      exact⟨xs,hxs,rfl⟩
  · rintro j _ ⟨rfl,xs,hxs,rfl⟩ J
    simp (disch:=(first|omega|(simp only [stLen]<;>omega)|(simp only [all_nv];done)|rfl)) only [zA,zB,zC,zD,zF,zG,zH,Nat.reduceEqDiff,Nat.reduceLT,Nat.reduceLeDiff,↓reduceIte]
    exact⟨xs,hxs,rfl⟩
theorem got_fill0 {q n:Nat} {w:Value} (h:isSl w=true):xfill [nv 0,nv 0,.slice none 0 0,nv 0] [(0,3)] [codv q n w]=some [nv q,nv n,w,nv 0]:=by
  cases w<;>simp [isSl] at h
  rfl
theorem span_c (Q:FQ α cd p e q blk) {v:Value} {n:Nat} {M:List (List α)} (hv:RowR H v (evr cd M)) (hl:∀ x∈M,x.length=n) (hM:M.length≤400) (hn:n≤1000) (hn0:0<n) :
    FN Tryz.prog 67 [nv q,nv n,v] H (RetG cd q n (lreduce M) H):=by
  refine g67_of ?_
  unfold g67
  have hX:=Pre.new H [.cells [nv 0,nv 0,.slice none 0 0,nv 0] 37 none false]
  refine FZ.mono (over_c Q) ?_
  rintro _ H2 ⟨hp2,b,rfl,hb⟩
  refine FZ.mono (rreduce_c (Q.ok b) hb (hv.pre (hX.trans hp2)) hl hM hn hn0) ?_
  rintro w H3 ⟨hp3,hw⟩
  have hpp:=hp2.trans hp3
  have g3:H3[H.length]? = some (.cells [nv 0,nv 0,.slice none 0 0,nv 0] 37 none false):=hpp.get (by simp)
  have f1:=codv_fill (q:=q) (n:=n) hw.isSl
  have f2:=got_fill0 (q:=q) (n:=n) hw.isSl
  have s6:=stB_four (H:=H3) (bl:=H.length) (x:=nv q) (y:=nv n) (z:=w) (u:=nv 0) (c0:=nv 0) (c1:=nv 0) (c2:=.slice none 0 0) (c3:=nv 0) (e:=37) (op:=none) rfl rfl hw.one rfl
  have g6:(H3.set H.length (.cells [nv q,nv n,w,nv 0] 37 none false))[H.length]? = some (.cells [nv q,nv n,w,nv 0] 37 none false):=List.getElem?_set_self (get_lt g3)
  simp (disch:=(first|omega|(simp only [stLen]<;>omega)|(simp only [all_nv];done)|rfl)) only [zA,zB,zC,zD,zF,zG,zH,Nat.reduceEqDiff,Nat.reduceLT,Nat.reduceLeDiff,↓reduceIte,f1,f2,g3,s6,g6]
  have hl2:=hp2.len
  simp only [List.length_append,List.length_cons,List.length_nil] at hl2
  exact⟨(hX.trans hpp).set (Nat.le_refl _) _,w,rfl,(hw.setLow (by omega)).mono (by omega)⟩
theorem rows2 {H:AH} {bl:Nat} {v w:Value} {xs ys:List α} {n:Nat} (hb:H[bl]? = some (.cells [v,w] 31 none false)) (hv:Row H v (evs cd xs)) (hw:Row H w (evs cd ys)):RowR H (.slice (some ⟨bl,0,none⟩) 2 2) (evr cd [xs,ys]):=by
  refine⟨[v,w],(Row.of hb rfl (Nat.le_refl _)).x (by simp),⟨rfl,fun k hk=>?_⟩⟩
  simp at hk
  rcases k with _|_|k
  · exact hv
  · exact hw
  · omega
theorem inner_ind {N:Nat} {xa:List α} (hl:xa.length=N) (hN:2≤N) (h0:xa.getD 0 Fl.zero=Fl.one):(lreduce [xa,lunit N 1]).length=2:=by
  have hul:(lunit (α:=α) N 1).length=N:=by simp [lunit]
  have hw:∀ x∈[xa,lunit N 1],x.length=N:=by
    intro x hx
    simp only [List.mem_cons,List.not_mem_nil,or_false] at hx
    rcases hx with rfl|rfl
    · exact hl
    · exact hul
  rw [lreduce_indep hw]
  · rfl
  · intro k hk hs
    simp at hk
    rcases k with _|_|k
    · have:toV xa=vz:=by
        refine LSpan.sub (L:=([xa,lunit N 1]:List (List α)).take 0) (S:=fun u=>u=vz) rfl ?_ ?_ (by simp) hs
        · rintro _ _ rfl rfl;exact va_zero _
        · rintro c _ rfl;exact vs_vz c
      have:=congrFun this 0
      exact one_ne_zero' (h0.symm.trans this)
    · have key:∃ c,toV (lunit (α:=α) N 1)=vs c (toV xa):=by
        refine LSpan.sub (L:=([xa,lunit N 1]:List (List α)).take 1) (S:=fun u=>∃ c,u=vs c (toV xa)) ⟨Fl.zero,(vs_zero _).symm⟩ ?_ ?_ ?_ hs
        · rintro _ _ ⟨c,rfl⟩ ⟨d,rfl⟩;exact⟨Fl.add c d,(add_vs c d _).symm⟩
        · rintro a _ ⟨c,rfl⟩;exact⟨Fl.mul a c,vs_vs a c _⟩
        · intro x hx
          simp at hx
          rw [hx];exact⟨Fl.one,(vs_one _).symm⟩
      obtain⟨c,hc⟩:=key
      rw [toV_unit (by omega)] at hc
      have e0:=congrFun hc 0
      have e1:=congrFun hc 1
      have hx0:toV xa 0=Fl.one:=h0
      change (if (0:Nat)=1 then Fl.one else Fl.zero)=Fl.mul c (toV xa 0) at e0
      rw [if_neg (by omega),hx0,Fl.mul_one] at e0
      change (if (1:Nat)=1 then Fl.one else Fl.zero)=Fl.mul c (toV xa 1) at e1
      rw [if_pos rfl,←e0,Fl.zero_mul] at e1
      exact one_ne_zero' e1
    · omega
theorem inner_c (Q:FQ α cd p e 2 blk) {x:Value} {us:List Nat} {k n m:Nat} (hm:m<256) (hn:n<256) (hus:∀ u∈us,u<256) (hx:Row H x (us.map bv)) :
    FN Tryz.prog 33 [rawv k n m x] H (fun r H'=>Pre H H'∧∃ w B,r=codv 2 (2+n % 4) w∧LRed (2+n % 4) B∧B.length=2∧Lw.RowLo H.length H' w (evr cd B)):=by
  refine g33_of ?_
  unfold g33
  have hxo:=hx.one
  have hxc:=hx.cells
  have F:=Q.ok 0
  obtain⟨N,hN⟩:∃ N,N=2+n % 4:=⟨_,rfl⟩
  have hN2:2≤N∧N≤5:=by omega
  have c1:xpure (.conv .i64) [bv n]=some (nv n):=xp_convN (by omega)
  have h4:¬(4:Nat)=0:=by decide
  simp (disch:=(first|omega|(simp only [stLen]<;>omega)|(simp only [all_nv];done)|rfl)) only [zA,zB,zC,zD,zF,zG,zH,Nat.reduceEqDiff,Nat.reduceLT,Nat.reduceLeDiff,↓reduceIte,hxc,c1,h4]
  rw [←hN]
  have hX:=Pre.new H [.cells [bv k,bv n,bv m,x] 24 none false,.cells [nv 0,nv 0,.slice none 0 0] 29 none false]
  obtain⟨HX,hHX⟩:∃ HX,HX=H++[.cells [bv k,bv n,bv m,x] 24 none false,.cells [nv 0,nv 0,.slice none 0 0] 29 none false]:=⟨_,rfl⟩
  have gx:HX[H.length]? = some (.cells [bv k,bv n,bv m,x] 24 none false):=by rw [hHX];simp
  have gr:HX[H.length+1]? = some (.cells [nv 0,nv 0,.slice none 0 0] 29 none false):=by rw [hHX];simp
  have hXl:HX.length=H.length+2:=by rw [hHX];simp
  rw [←hHX] at hX ⊢
  clear hHX
  refine FZ.mono (given_c F hus (hx.pre hX) (by omega)) ?_
  rintro _ _ ⟨rfl,xs,hxs,rfl⟩
  refine FZ.use (zero_c (by omega)) ?_
  have hpx:∀ (y1 y2:AB),Pre HX (HX++[y1,y2]):=fun y1 y2=>Pre.new HX [y1,y2]
  rw [zeros_ev F]
  have ix0:xpure (.ixS 1) [.slice (some ⟨HX.length,0,none⟩) N N,nv 0]=some (.pointer (some ⟨HX.length,0,none⟩)):=by rw [xp_ixSN (by omega)]
  have st1:=st_ev (cd:=cd) (H:=HX++[.cells (evs cd xs) 3 none false,.cells (evs cd (List.replicate N (Fl.zero:α))) 3 none false]) (bl:=HX.length) (k:=0) (xs:=xs) (x:=Fl.one) (t:=3) (op:=none) (by simp) (by omega)
  have e1:(HX++[AB.cells (evs cd xs) 3 none false,AB.cells (evs cd (List.replicate N (Fl.zero:α))) 3 none false]).set HX.length (AB.cells (evs cd (xs.set 0 Fl.one)) 3 none false)=HX++[AB.cells (evs cd (xs.set 0 Fl.one)) 3 none false,AB.cells (evs cd (List.replicate N (Fl.zero:α))) 3 none false]:=by
    rw [List.set_append_right _ _ (by omega)];simp
  rw [e1,F.one] at st1
  obtain⟨xa,hxa⟩:∃ xa,xa=xs.set 0 Fl.one:=⟨_,rfl⟩
  have hxal:xa.length=N:=by rw [hxa,List.length_set];exact hxs
  have hxa0:xa.getD 0 Fl.zero=Fl.one:=by rw [hxa,getD_set (by omega),if_pos rfl]
  rw [←hxa] at st1
  have g4:∀ (y1 y2:AB),(HX++[y1,y2])[H.length]? = some (.cells [bv k,bv n,bv m,x] 24 none false):=fun y1 y2=>(hpx y1 y2).get gx
  have gx4:=g4 (.cells (evs cd xa) 3 none false) (.cells (evs cd (List.replicate N (Fl.zero:α))) 3 none false)
  have c3:xpure (.conv .i64) [bv m]=some (nv m):=xp_convN (by omega)
  have hN1:1≤N:=by omega
  have hNz:¬N-1=0:=by omega
  obtain⟨i1,hi1⟩:∃ i1,i1=1+m % (N-1):=⟨_,rfl⟩
  have hi1N:i1<N:=by have:=Nat.mod_lt m (show 0<N-1 by omega);omega
  have ix1:xpure (.ixS 1) [.slice (some ⟨HX.length+1,0,none⟩) N N,nv i1]=some (.pointer (some ⟨HX.length+1,i1,none⟩)):=by rw [xp_ixSN hi1N];simp
  have st2:=st_ev (cd:=cd) (H:=HX++[.cells (evs cd xa) 3 none false,.cells (evs cd (List.replicate N (Fl.zero:α))) 3 none false]) (bl:=HX.length+1) (k:=i1) (xs:=List.replicate N (Fl.zero:α)) (x:=Fl.one) (t:=3) (op:=none) (by simp) (by simpa using hi1N)
  have e2:∀ zs ys:List α,(HX++[AB.cells (evs cd xa) 3 none false,AB.cells (evs cd zs) 3 none false]).set (HX.length+1) (AB.cells (evs cd ys) 3 none false)=HX++[AB.cells (evs cd xa) 3 none false,AB.cells (evs cd ys) 3 none false]:=fun zs ys=>by
    rw [List.set_append_right _ _ (by omega)];simp
  rw [e2,F.one] at st2
  rw [hi1] at ix1 st2
  simp (disch:=(first|omega|(simp only [stLen]<;>omega)|(simp only [all_nv];done)|rfl)) only [zA,zB,zC,zD,zF,zG,zH,Nat.reduceEqDiff,Nat.reduceLT,Nat.reduceLeDiff,↓reduceIte,ix0,st1,gx4,c3,hN1,hNz,ix1,st2]
  rw [←hi1]
  refine joinV0.via (fun H'=>∃ xb:List α,xb.length=N∧H'=HX++[.cells (evs cd xa) 3 none false,.cells (evs cd xb) 3 none false]) ?_ ?_
  · intro J hJ
    have hxb0:((List.replicate N (Fl.zero:α)).set i1 Fl.one).length=N:=by simp
    obtain⟨xb0,hxb⟩:∃ xb0,xb0=(List.replicate N (Fl.zero:α)).set i1 Fl.one:=⟨_,rfl⟩
    rw [←hxb] at hxb0 ⊢
    have gx5:=g4 (.cells (evs cd xa) 3 none false) (.cells (evs cd xb0) 3 none false)
    have hv8:=hx.pre (hX.trans (hpx (.cells (evs cd xa) 3 none false) (.cells (evs cd xb0) 3 none false)))
    have vl:=hv8.len
    rw [List.length_map] at vl
    by_cases hu0:0<us.length
    · have vi:=hv8.ix (k:=0) (by rw [List.length_map];exact hu0)
      have ld:=bv_ld hv8 hu0
      have hu:=getD_lt hus hu0
      have cv:xpure (.conv .i64) [bv (us.getD 0 0)]=some (nv (us.getD 0 0)):=xp_convN (by omega)
      obtain⟨y,hy⟩:=F.sur (us.getD 0 0 / 2 % 2) (Nat.mod_lt _ (by omega))
      have h2:¬(2:Nat)=0:=by decide
      have hNN:N-1<N:=by omega
      have ix2:xpure (.ixS 1) [.slice (some ⟨HX.length+1,0,none⟩) N N,nv (N-1)]=some (.pointer (some ⟨HX.length+1,N-1,none⟩)):=by rw [xp_ixSN hNN];simp
      have st:=st_ev (cd:=cd) (H:=HX++[.cells (evs cd xa) 3 none false,.cells (evs cd xb0) 3 none false]) (bl:=HX.length+1) (k:=N-1) (xs:=xb0) (x:=y) (t:=3) (op:=none) (by simp) (by omega)
      rw [e2,hy] at st
      have hdl:us.getD 0 0 / 2<4611686018427387904:=by omega
      simp (disch:=(first|omega|(simp only [stLen]<;>omega)|(simp only [all_nv];done)|rfl)) only [zA,zB,zC,zD,zF,zG,zH,Nat.reduceEqDiff,Nat.reduceLT,Nat.reduceLeDiff,↓reduceIte,gx5,vl,hu0,hN1,vi,ld,cv,h2,ix2,st]
      exact hJ _ ⟨xb0.set (N-1) y,by rw [List.length_set];exact hxb0,rfl⟩
    · simp (disch:=(first|omega|(simp only [stLen]<;>omega)|(simp only [all_nv];done)|rfl)) only [zA,zB,zC,zD,zF,zG,zH,Nat.reduceEqDiff,Nat.reduceLT,Nat.reduceLeDiff,↓reduceIte,gx5,vl,hu0]
      exact hJ _ ⟨xb0,hxb0,rfl⟩
  rintro _ ⟨xb,hxb,rfl⟩
  have f1:xfill [.slice none 0 0,.slice none 0 0] [(0,1),(1,1)] [.slice (some ⟨HX.length,0,none⟩) N N,.slice (some ⟨HX.length+1,0,none⟩) N N]=some [.slice (some ⟨HX.length,0,none⟩) N N,.slice (some ⟨HX.length+1,0,none⟩) N N]:=rfl
  simp (disch:=(first|omega|(simp only [stLen]<;>omega)|(simp only [all_nv];done)|rfl)) only [zA,zB,zC,zD,zF,zG,zH,Nat.reduceEqDiff,Nat.reduceLT,Nat.reduceLeDiff,↓reduceIte,f1]
  have hp9:=Pre.new HX [.cells (evs cd xa) 3 none false,.cells (evs cd xb) 3 none false,.cells [.slice (some ⟨HX.length,0,none⟩) N N,.slice (some ⟨HX.length+1,0,none⟩) N N] 31 none false]
  have ga9:(HX++[.cells (evs cd xa) 3 none false,.cells (evs cd xb) 3 none false,.cells [.slice (some ⟨HX.length,0,none⟩) N N,.slice (some ⟨HX.length+1,0,none⟩) N N] 31 none false])[HX.length]? = some (.cells (evs cd xa) 3 none false):=by simp
  obtain⟨H9,hH9⟩:∃ H9,H9=HX++[.cells (evs cd xa) 3 none false,.cells (evs cd xb) 3 none false,.cells [.slice (some ⟨HX.length,0,none⟩) N N,.slice (some ⟨HX.length+1,0,none⟩) N N] 31 none false]:=⟨_,rfl⟩
  have hRR:RowR H9 (.slice (some ⟨HX.length+2,0,none⟩) 2 2) (evr cd [xa,xb]):=by
    rw [hH9]
    exact rows2 (n:=N) (v:=.slice (some ⟨HX.length,0,none⟩) N N) (w:=.slice (some ⟨HX.length+1,0,none⟩) N N) (by simp) (Row.of (b:=HX.length) (e:=3) (op:=none) (r:=false) (by simp) (by rw [List.length_map,hxal]) (Nat.le_refl _)) (Row.of (b:=HX.length+1) (e:=3) (op:=none) (r:=false) (by simp) (by rw [List.length_map,hxb]) (Nat.le_refl _))
  have hl9:H9.length=HX.length+3:=by rw [hH9];simp
  rw [←hH9] at hp9 ga9 ⊢
  clear hH9
  have hw2:∀ z∈[xa,xb],z.length=N:=by
    intro z hz
    simp only [List.mem_cons,List.not_mem_nil,or_false] at hz
    rcases hz with rfl|rfl
    · exact hxal
    · exact hxb
  refine FZ.mono (span_c Q hRR hw2 (by simp) (by omega) (by omega)) ?_
  rintro _ H10 ⟨hp10,w,rfl,hw⟩
  obtain⟨hr1,_,hr3⟩:=lreduce_red hw2
  have pc:∀ q n (v:Value) er,xpure (.prt (some 3) 0) [gotv q n v er]=some (codv q n v):=fun _ _ _ _=>rfl
  have s12:=stB_three (H:=H10++[.cells [nv 0,nv 0,.slice none 0 0] 29 none false]) (bl:=H10.length) (x:=nv 2) (y:=nv N) (z:=w) (c0:=nv 0) (c1:=nv 0) (c2:=.slice none 0 0) (e:=29) (op:=none) rfl rfl hw.one
  rw [set_last] at s12
  simp (disch:=(first|omega|(simp only [stLen]<;>omega)|(simp only [all_nv];done)|rfl)) only [zA,zB,zC,zD,zF,zG,zH,Nat.reduceEqDiff,Nat.reduceLT,Nat.reduceLeDiff,↓reduceIte,pc,s12]
  have hp12:=Pre.new H10 [.cells [nv 2,nv N,w] 29 none false]
  have gc12:(H10++[.cells [nv 2,nv N,w] 29 none false])[H10.length]? = some (.cells [nv 2,nv N,w] 29 none false):=by simp
  have hw12:=hw.pre hp12
  have hl12:(H10++[AB.cells [nv 2,nv N,w] 29 none false]).length=H10.length+1:=by simp
  obtain⟨H12,hH12⟩:∃ H12,H12=H10++[.cells [nv 2,nv N,w] 29 none false]:=⟨_,rfl⟩
  rw [←hH12] at hp12 gc12 hw12 hl12 ⊢
  clear hH12 s12
  have hpX12:=hp9.trans (hp10.trans hp12)
  have hl10:=hp10.len
  refine joinV0.via (fun H'=>Pre HX H'∧H10.length<H'.length∧∃ w B,H'[H10.length]? = some (.cells [nv 2,nv N,w] 29 none false)∧LRed N B∧B.length=2∧Lw.RowLo HX.length H' w (evr cd B)) ?_ ?_
  · intro J hJ
    obtain⟨vs,hvs,hvl,_⟩:=hw12.rowR.open
    obtain⟨vl,_,_,_⟩:=hvs.allV
    rw [hvl] at vl
    by_cases h2:(lreduce [xa,xb]).length<2
    · simp (disch:=(first|omega|(simp only [stLen]<;>omega)|(simp only [all_nv];done)|rfl)) only [zA,zB,zC,zD,zF,zG,zH,Nat.reduceEqDiff,Nat.reduceLT,Nat.reduceLeDiff,↓reduceIte,gc12,vl,h2]
      refine FZ.use (zero_c (by omega)) ?_
      rw [zeros_ev F]
      have ix3:xpure (.ixS 1) [.slice (some ⟨H12.length,0,none⟩) N N,nv 1]=some (.pointer (some ⟨H12.length,1,none⟩)):=by rw [xp_ixSN (by omega)]
      have st3:=st_ev (cd:=cd) (H:=H12++[.cells (evs cd (List.replicate N (Fl.zero:α))) 3 none false]) (bl:=H12.length) (k:=1) (xs:=List.replicate N (Fl.zero:α)) (x:=Fl.one) (t:=3) (op:=none) (by simp) (by simp;omega)
      rw [set_last,F.one] at st3
      have f2:xfill [.slice none 0 0,.slice none 0 0] [(0,1),(1,1)] [.slice (some ⟨HX.length,0,none⟩) N N,.slice (some ⟨H12.length,0,none⟩) N N]=some [.slice (some ⟨HX.length,0,none⟩) N N,.slice (some ⟨H12.length,0,none⟩) N N]:=rfl
      simp (disch:=(first|omega|(simp only [stLen]<;>omega)|(simp only [all_nv];done)|rfl)) only [zA,zB,zC,zD,zF,zG,zH,Nat.reduceEqDiff,Nat.reduceLT,Nat.reduceLeDiff,↓reduceIte,ix3,st3,f2]
      have hp15:=Pre.new H12 [.cells (evs cd (lunit (α:=α) N 1)) 3 none false,.cells [.slice (some ⟨HX.length,0,none⟩) N N,.slice (some ⟨H12.length,0,none⟩) N N] 31 none false]
      have eu:(H12++[AB.cells (evs cd ((List.replicate N (Fl.zero:α)).set 1 Fl.one)) 3 none false,AB.cells [.slice (some ⟨HX.length,0,none⟩) N N,.slice (some ⟨H12.length,0,none⟩) N N] 31 none false])=H12++[AB.cells (evs cd (lunit (α:=α) N 1)) 3 none false,AB.cells [.slice (some ⟨HX.length,0,none⟩) N N,.slice (some ⟨H12.length,0,none⟩) N N] 31 none false]:=rfl
      rw [eu]
      have ga12:=(hp10.trans hp12).get ga9
      have ga15:=hp15.get ga12
      have gc15:=hp15.get gc12
      have hul:(lunit (α:=α) N 1).length=N:=by simp [lunit]
      have hRR2:RowR (H12++[AB.cells (evs cd (lunit (α:=α) N 1)) 3 none false,AB.cells [.slice (some ⟨HX.length,0,none⟩) N N,.slice (some ⟨H12.length,0,none⟩) N N] 31 none false]) (.slice (some ⟨H12.length+1,0,none⟩) 2 2) (evr cd [xa,lunit N 1]):=
        rows2 (n:=N) (v:=.slice (some ⟨HX.length,0,none⟩) N N) (w:=.slice (some ⟨H12.length,0,none⟩) N N) (by simp) (Row.of ga15 (by rw [List.length_map,hxal]) (Nat.le_refl _)) (Row.of (b:=H12.length) (e:=3) (op:=none) (r:=false) (by simp) (by rw [List.length_map,hul]) (Nat.le_refl _))
      have hl15:(H12++[AB.cells (evs cd (lunit (α:=α) N 1)) 3 none false,AB.cells [.slice (some ⟨HX.length,0,none⟩) N N,.slice (some ⟨H12.length,0,none⟩) N N] 31 none false]).length=H12.length+2:=by simp
      obtain⟨H15,hH15⟩:∃ H15,H15=H12++[AB.cells (evs cd (lunit (α:=α) N 1)) 3 none false,AB.cells [.slice (some ⟨HX.length,0,none⟩) N N,.slice (some ⟨H12.length,0,none⟩) N N] 31 none false]:=⟨_,rfl⟩
      rw [←hH15] at hp15 gc15 hRR2 hl15 ⊢
      have hw3:∀ z∈[xa,lunit N 1],z.length=N:=by
        intro z hz
        simp only [List.mem_cons,List.not_mem_nil,or_false] at hz
        rcases hz with rfl|rfl
        · exact hxal
        · exact hul
      refine FZ.mono (span_c Q hRR2 hw3 (by simp) (by omega) (by omega)) ?_
      rintro _ H16 ⟨hp16,w16,rfl,hw16⟩
      have gc16:=hp16.get gc15
      have s17:=stB_three (H:=H16) (bl:=H10.length) (x:=nv 2) (y:=nv N) (z:=w16) (c0:=nv 2) (c1:=nv N) (c2:=w) (e:=29) (op:=none) rfl rfl hw16.one
      simp (disch:=(first|omega|(simp only [stLen]<;>omega)|(simp only [all_nv];done)|rfl)) only [zA,zB,zC,zD,zF,zG,zH,Nat.reduceEqDiff,Nat.reduceLT,Nat.reduceLeDiff,↓reduceIte,pc,gc16,s17]
      have hl16:=hp16.len
      refine hJ _ ⟨(hpX12.trans (hp15.trans hp16)).set (by omega) _,by rw [List.length_set];omega,w16,_,List.getElem?_set_self (get_lt gc16),(lreduce_red hw3).1,inner_ind hxal hN2.1 hxa0,(hw16.setLow (by omega)).mono (by omega)⟩
    · simp (disch:=(first|omega|(simp only [stLen]<;>omega)|(simp only [all_nv];done)|rfl)) only [zA,zB,zC,zD,zF,zG,zH,Nat.reduceEqDiff,Nat.reduceLT,Nat.reduceLeDiff,↓reduceIte,gc12,vl,h2]
      have h3:(lreduce [xa,xb]).length=2:=by simp at hr3;omega
      exact hJ _ ⟨hpX12,by omega,w,_,gc12,hr1,h3,hw12.mono (by omega)⟩
  rintro H18 ⟨hp18,hl18,w18,B,gc18,hB,hB2,hw18⟩
  have gr18:=hp18.get gr
  have s19:=stB_three (H:=H18) (bl:=H.length+1) (x:=nv 2) (y:=nv N) (z:=w18) (c0:=nv 0) (c1:=nv 0) (c2:=.slice none 0 0) (e:=29) (op:=none) rfl rfl hw18.one
  have g19:(H18.set (H.length+1) (.cells [nv 2,nv N,w18] 29 none false))[H.length+1]? = some (.cells [nv 2,nv N,w18] 29 none false):=List.getElem?_set_self (get_lt gr18)
  simp (disch:=(first|omega|(simp only [stLen]<;>omega)|(simp only [all_nv];done)|rfl)) only [zA,zB,zC,zD,zF,zG,zH,Nat.reduceEqDiff,Nat.reduceLT,Nat.reduceLeDiff,↓reduceIte,gc18,gr18,s19,g19]
  exact⟨(hX.trans hp18).set (by omega) _,w18,B,rfl,hB,hB2,(hw18.setLow (by omega)).mono (by omega)⟩
end
section
variable {α β:Type} [Fl α] [Fl β] [DecidableEq α] [DecidableEq β] {cda:α→Nat} {cdb:β→Nat} {p e p2 e2:Nat} {blk blk2:AB} {H:AH}
theorem concat26_c (Q4:FQ α cda p e 4 blk) (Q2:FQ β cdb p2 e2 2 blk2) {two:α} (h2:cda two=2) {v w:Value} {n m:Nat} {A:List (List α)} {B:List (List β)} (rep:List α→List β)
    (hrep:∀ x:List α,(rep x).map cdb=repL m ((B.getD 0 []).map cdb) ((B.getD 1 []).map cdb) (x.map cda)) (hv:RowR H v (evr cda A)) (hw:RowR H w (evr cdb B)) (hA:∀ x∈A,x.length=n) (hB:∀ x∈B,x.length=m) (hB2:B.length=2) (hlA:A.length≤100) (hn0:0<n) (hm0:0<m) (hnm:n*m≤24) :
    FN Tryz.prog 26 [codv 4 n v,codv 2 m w] H (RetG cdb 2 (n*m) (lreduce ((lcat two A).map rep)) H):=by
  refine g26_of ?_
  unfold g26
  have ho:=hv.one'
  have ho2:=hw.one'
  simp (disch:=(first|omega|(simp only [stLen]<;>omega)|(simp only [all_nv];done)|rfl)) only [zA,zB,zC,zD,zF,zG,zH,Nat.reduceEqDiff,Nat.reduceLT,Nat.reduceLeDiff,↓reduceIte,ho2]
  have hX:=Pre.new H [.cells [nv 4,nv n,v] 29 none false,.cells [nv 2,nv m,w] 29 none false,.cells [nv 0,nv 0,.slice none 0 0,nv 0] 37 none false]
  refine FZ.mono (mconcat_c Q4 Q2 h2 rep hrep (hv.pre hX) (hw.pre hX) hA hB hB2 hlA hn0 hm0 hnm) ?_
  rintro _ H3 ⟨hp3,w9,rfl,hw9⟩
  have s4:=stB_three (H:=H3++[.cells [nv 0,nv 0,.slice none 0 0] 29 none false]) (bl:=H3.length) (x:=nv 2) (y:=nv (n*m)) (z:=w9) (c0:=nv 0) (c1:=nv 0) (c2:=.slice none 0 0) (e:=29) (op:=none) rfl rfl hw9.one
  rw [set_last] at s4
  have hb3:H3[H.length+2]? = some (.cells [nv 0,nv 0,.slice none 0 0,nv 0] 37 none false):=hp3.get (by simp)
  have hb4:=get_app hb3 [.cells [nv 2,nv (n*m),w9] 29 none false]
  have s6:=stB_four (H:=H3++[.cells [nv 2,nv (n*m),w9] 29 none false]) (bl:=H.length+2) (x:=nv 2) (y:=nv (n*m)) (z:=w9) (u:=nv 0) (c0:=nv 0) (c1:=nv 0) (c2:=.slice none 0 0) (c3:=nv 0) (e:=37) (op:=none) rfl rfl hw9.one rfl
  have g6:((H3++[AB.cells [nv 2,nv (n*m),w9] 29 none false]).set (H.length+2) (AB.cells [nv 2,nv (n*m),w9,nv 0] 37 none false))[H.length+2]? = some (.cells [nv 2,nv (n*m),w9,nv 0] 37 none false):=List.getElem?_set_self (get_lt hb4)
  have f4:=fill_got (q:=2) (n:=n*m) (er:=0) hw9.isSl
  simp (disch:=(first|omega|(simp only [stLen]<;>omega)|(simp only [all_nv];done)|rfl)) only [zA,zB,zC,zD,zF,zG,zH,Nat.reduceEqDiff,Nat.reduceLT,Nat.reduceLeDiff,↓reduceIte,s4,hb4,f4,s6,g6]
  refine⟨((hX.trans hp3).app _).set (by omega) _,w9,rfl,?_⟩
  exact ((hw9.pre (Pre.new H3 _)).setLow (by simp)).mono (by simp)
end
end Go.Sim

namespace Go.Sim
section
variable {α β:Type} [Fl α] [Fl β] [DecidableEq α] [DecidableEq β]
structure Bit2 (b0 b1:α→β) (two:α) (lift:β→α):Prop where
  add0:∀ x y,b0 (Fl.add x y)=Fl.add (b0 x) (b0 y)
  add1:∀ x y,b1 (Fl.add x y)=Fl.add (b1 x) (b1 y)
  lift0:∀ c x,b0 (Fl.mul (lift c) x)=Fl.mul c (b0 x)
  lift1:∀ c x,b1 (Fl.mul (lift c) x)=Fl.mul c (b1 x)
  dec:∀ c x,Fl.mul c x=Fl.add (Fl.mul (lift (b0 c)) x) (Fl.mul (lift (b1 c)) (Fl.mul two x))
  inj:∀ x y,b0 x=b0 y→b1 x=b1 y→x=y
  zero0:b0 Fl.zero=Fl.zero
  zero1:b1 Fl.zero=Fl.zero
  one1:b1 Fl.one=Fl.zero
  two1:b1 two=Fl.one
variable {b0 b1:α→β} {two:α} {lift:β→α}
def lrep (b0 b1:α→β) (m:Nat) (g h:List β) (x:List α):List β:=x.flatMap fun a=>(List.range m).map fun j=>Fl.add (Fl.mul (b0 a) (g.getD j Fl.zero)) (Fl.mul (b1 a) (h.getD j Fl.zero))
def vrep (b0 b1:α→β) (m:Nat) (g h:List β) (v:Vc α):Vc β:=fun i=>Fl.add (Fl.mul (b0 (v (i / m))) (g.getD (i % m) Fl.zero)) (Fl.mul (b1 (v (i / m))) (h.getD (i % m) Fl.zero))
theorem lrep_len (m:Nat) (g h:List β):∀ x:List α,(lrep b0 b1 m g h x).length=x.length*m
  | []=>by simp [lrep]
  | a :: x=>by
    have:=lrep_len m g h x
    unfold lrep at this ⊢
    rw [List.flatMap_cons,List.length_append,this,List.length_map,List.length_range,List.length_cons,Nat.succ_mul,Nat.add_comm]
theorem lrep_get (B:Bit2 b0 b1 two lift) {m:Nat} (hm:0<m) (g h:List β):∀ (x:List α) (i:Nat),(lrep b0 b1 m g h x).getD i Fl.zero=Fl.add (Fl.mul (b0 (x.getD (i / m) Fl.zero)) (g.getD (i % m) Fl.zero)) (Fl.mul (b1 (x.getD (i / m) Fl.zero)) (h.getD (i % m) Fl.zero))
  | [],i=>by
    simp only [lrep,List.flatMap_nil,List.getD_nil,B.zero0,B.zero1,Fl.zero_mul,Fl.add_zero]
  | a :: x,i=>by
    have ih:=lrep_get B hm g h x
    unfold lrep at ih ⊢
    rw [List.flatMap_cons,List.getD_eq_getElem?_getD]
    by_cases hi:i<m
    · rw [List.getElem?_append_left (by simpa using hi),Nat.div_eq_of_lt hi,Nat.mod_eq_of_lt hi]
      simp [hi]
    · have e1:i / m=(i-m) / m+1:=by
        obtain⟨k,rfl⟩:∃ k,i=k+m:=⟨i-m,by omega⟩
        rw [Nat.add_sub_cancel,Nat.add_div_right _ hm]
      have e2:i % m=(i-m) % m:=by
        obtain⟨k,rfl⟩:∃ k,i=k+m:=⟨i-m,by omega⟩
        rw [Nat.add_sub_cancel,Nat.add_mod_right]
      rw [List.getElem?_append_right (by simp;omega),List.length_map,List.length_range,←List.getD_eq_getElem?_getD,ih,e1,e2]
      simp
theorem toV_rep (B:Bit2 b0 b1 two lift) {m:Nat} (hm:0<m) (g h:List β) (x:List α):toV (lrep b0 b1 m g h x)=vrep b0 b1 m g h (toV x):=funext fun i=>lrep_get B hm g h x i
section
variable (B:Bit2 b0 b1 two lift) {m:Nat} {g h:List β}
include B
theorem vrep_va (u v:Vc α):vrep b0 b1 m g h (va u v)=va (vrep b0 b1 m g h u) (vrep b0 b1 m g h v):=by
  funext i
  unfold vrep va
  rw [B.add0,B.add1,Fl.add_mul,Fl.add_mul,Fl.add_swap]
theorem vrep_vz:vrep b0 b1 m g h (vz:Vc α)=vz:=by
  funext i
  unfold vrep vz
  rw [B.zero0,B.zero1,Fl.zero_mul,Fl.zero_mul,Fl.add_zero]
theorem vrep_vs (c:β) (v:Vc α):vrep b0 b1 m g h (vs (lift c) v)=vs c (vrep b0 b1 m g h v):=by
  funext i
  unfold vrep vs
  rw [B.lift0,B.lift1,Fl.mul_add,Fl.mul_assoc,Fl.mul_assoc]
theorem vs_dec (c:α) (v:Vc α):vs c v=va (vs (lift (b0 c)) v) (vs (lift (b1 c)) (vs two v)):=funext fun j=>B.dec c (v j)
theorem lcat_span (hm:0<m) {n:Nat} {A:List (List α)} (hl:∀ x∈A,x.length=n) (u:Vc β):LSpan ((lcat two A).map (lrep b0 b1 m g h)) u↔∃ v,LSpan A v∧u=vrep b0 b1 m g h v:=by
  have hrow:∀ x∈lcat two A,LSpan ((lcat two A).map (lrep b0 b1 m g h)) (vrep b0 b1 m g h (toV x)):=fun x hx=>by
    rw [←toV_rep B hm];exact LSpan.mem (List.mem_map_of_mem hx)
  constructor
  · intro hu
    refine LSpan.sub (L:=(lcat two A).map (lrep b0 b1 m g h)) (S:=fun u=>∃ v,LSpan A v∧u=vrep b0 b1 m g h v) ⟨vz,Span.zero,(vrep_vz B).symm⟩ ?_ ?_ ?_ hu
    · rintro _ _ ⟨v,hv,rfl⟩ ⟨w,hw,rfl⟩;exact⟨va v w,Span.add hv hw,(vrep_va B v w).symm⟩
    · rintro c _ ⟨v,hv,rfl⟩;exact⟨vs (lift c) v,Span.smul _ hv,(vrep_vs B c v).symm⟩
    · intro y hy
      obtain⟨x,hx,rfl⟩:=List.mem_map.1 hy
      refine⟨toV x,?_,toV_rep B hm g h x⟩
      rcases List.mem_append.1 hx with hx|hx
      · exact LSpan.mem hx
      · obtain⟨z,hz,rfl⟩:=List.mem_map.1 hx
        rw [toV_scale];exact Span.smul _ (LSpan.mem hz)
  · rintro⟨v,hv,rfl⟩
    have key:LSpan ((lcat two A).map (lrep b0 b1 m g h)) (vrep b0 b1 m g h v)∧LSpan ((lcat two A).map (lrep b0 b1 m g h)) (vrep b0 b1 m g h (vs two v)):=by
      refine LSpan.sub (L:=A) (S:=fun v=>LSpan ((lcat two A).map (lrep b0 b1 m g h)) (vrep b0 b1 m g h v)∧LSpan ((lcat two A).map (lrep b0 b1 m g h)) (vrep b0 b1 m g h (vs two v))) ?_ ?_ ?_ ?_ hv
      · rw [vs_vz,vrep_vz B];exact⟨Span.zero,Span.zero⟩
      · rintro a c ⟨h1,h2⟩ ⟨h3,h4⟩
        rw [vs_va,vrep_va B,vrep_va B];exact⟨Span.add h1 h3,Span.add h2 h4⟩
      · rintro c a ⟨h1,h2⟩
        have hc:∀ c,LSpan ((lcat two A).map (lrep b0 b1 m g h)) (vrep b0 b1 m g h (vs c a)):=fun c=>by
          rw [vs_dec B c a,vrep_va B,vrep_vs B,vrep_vs B];exact Span.add (Span.smul _ h1) (Span.smul _ h2)
        refine⟨hc c,?_⟩
        rw [vs_vs];exact hc _
      · intro x hx
        refine⟨hrow x (List.mem_append_left _ hx),?_⟩
        rw [←toV_scale]
        exact hrow _ (List.mem_append_right _ (List.mem_map.2 ⟨x,hx,rfl⟩))
    exact key.1
theorem vrep_piv {G:List (List β)} (hG:LRed m G) (h2:G.length=2) (hg:g=G.getD 0 []) (hh:h=G.getD 1 []) (v:Vc α) (k:Nat) :
    vrep b0 b1 m g h v (k*m+lpiv g)=b0 (v k)∧vrep b0 b1 m g h v (k*m+lpiv h)=b1 (v k):=by
  have hr:=hG.red
  have hp0:lpiv g<m:=by rw [hg];exact hG.piv.2 _ (getD_mem (by omega))
  have hp1:lpiv h<m:=by rw [hh];exact hG.piv.2 _ (getD_mem (by omega))
  have o0:g.getD (lpiv g) Fl.zero=Fl.one:=by rw [hg];exact hr.one 0 (by omega)
  have o1:h.getD (lpiv h) Fl.zero=Fl.one:=by rw [hh];exact hr.one 1 (by omega)
  have a0:h.getD (lpiv g) Fl.zero=Fl.zero:=by rw [hg,hh];exact hr.alone 0 1 (by omega) (by omega) (by omega)
  have a1:g.getD (lpiv h) Fl.zero=Fl.zero:=by rw [hg,hh];exact hr.alone 1 0 (by omega) (by omega) (by omega)
  have hm:0<m:=by omega
  constructor
  · unfold vrep
    rw [Nat.mul_comm k m,Nat.mul_add_div hm,Nat.div_eq_of_lt hp0,Nat.add_zero,Nat.mul_add_mod,Nat.mod_eq_of_lt hp0,o0,a0,Fl.mul_one,Fl.mul_zero,Fl.add_zero]
  · unfold vrep
    rw [Nat.mul_comm k m,Nat.mul_add_div hm,Nat.div_eq_of_lt hp1,Nat.add_zero,Nat.mul_add_mod,Nat.mod_eq_of_lt hp1,o1,a1,Fl.mul_one,Fl.mul_zero,Fl.zero_add]
theorem vrep_inj {G:List (List β)} (hG:LRed m G) (h2:G.length=2) (hg:g=G.getD 0 []) (hh:h=G.getD 1 []) {v w:Vc α} (he:vrep b0 b1 m g h v=vrep b0 b1 m g h w):v=w:=by
  funext k
  have p1:=vrep_piv B hG h2 hg hh v k
  have p2:=vrep_piv B hG h2 hg hh w k
  rw [he] at p1
  exact B.inj _ _ (p1.1.symm.trans p2.1) (p1.2.symm.trans p2.2)
theorem lcat_dim {G:List (List β)} (hG:LRed m G) (h2:G.length=2) (hg:g=G.getD 0 []) (hh:h=G.getD 1 []) (hm:0<m) {n:Nat} {A:List (List α)} (hA:LRed n A):(lreduce ((lcat two A).map (lrep b0 b1 m g h))).length=2*A.length:=by
  have hl:=hA.len
  have hwid:∀ x∈lcat two A,x.length=n:=by
    intro x hx
    rcases List.mem_append.1 hx with h|h
    · exact hl x h
    · obtain⟨y,hy,rfl⟩:=List.mem_map.1 h;rw [List.length_map];exact hl y hy
  have hw:∀ y∈(lcat two A).map (lrep b0 b1 m g h),y.length=n*m:=by
    intro y hy
    obtain⟨x,hx,rfl⟩:=List.mem_map.1 hy
    rw [lrep_len,hwid x hx]
  have hlen:(lcat two A).length=2*A.length:=by simp [lcat];omega
  rw [lreduce_indep hw,List.length_map,hlen]
  intro k hk hs
  rw [List.length_map,hlen] at hk
  have hr:=hA.red
  have e1:((lcat two A).map (lrep b0 b1 m g h)).getD k []=lrep b0 b1 m g h ((lcat two A).getD k []):=by
    simp [List.getD_eq_getElem?_getD,List.getElem?_eq_getElem (show k<(lcat two A).length by omega)]
  rw [e1,toV_rep B hm,←List.map_take] at hs
  -- rows before k
  have hrows:∀ S:Vc α→Prop,S vz→(∀ u v,S u→S v→S (va u v))→(∀ c u,S u→S (vs (lift c) u))→(∀ x∈(lcat two A).take k,S (toV x))→S (toV ((lcat two A).getD k [])):=by
    intro S s0 sa ss sr
    have:∃ v,S v∧vrep b0 b1 m g h (toV ((lcat two A).getD k []))=vrep b0 b1 m g h v:=by
      refine LSpan.sub (L:=((lcat two A).take k).map (lrep b0 b1 m g h)) (S:=fun u=>∃ v,S v∧u=vrep b0 b1 m g h v) ⟨vz,s0,(vrep_vz B).symm⟩ ?_ ?_ ?_ hs
      · rintro _ _ ⟨v,hv,rfl⟩ ⟨w,hw,rfl⟩;exact⟨va v w,sa _ _ hv hw,(vrep_va B v w).symm⟩
      · rintro c _ ⟨v,hv,rfl⟩;exact⟨vs (lift c) v,ss _ _ hv,(vrep_vs B c v).symm⟩
      · intro y hy
        obtain⟨x,hx,rfl⟩:=List.mem_map.1 hy
        exact⟨toV x,sr x hx,toV_rep B hm g h x⟩
    obtain⟨v,hv,he⟩:=this
    rw [vrep_inj B hG h2 hg hh he];exact hv
  have mul0:∀ c:β,Fl.mul (lift c) (Fl.zero:α)=Fl.zero:=fun c=>Fl.mul_zero _
  by_cases hkA:k<A.length
  · have ek:(lcat two A).getD k []=A.getD k []:=by
      unfold lcat;simp [List.getD_eq_getElem?_getD,List.getElem?_append_left hkA]
    have:=hrows (fun u=>u (lpiv (A.getD k []))=Fl.zero) rfl (fun u v hu hv=>by show Fl.add _ _=_;rw [hu,hv,Fl.add_zero]) (fun c u hu=>by show Fl.mul _ _=_;rw [hu,mul0]) (fun x hx=>by
      obtain⟨i,hi,rfl⟩:=List.mem_iff_getElem.1 hx
      have hi':i<k:=by simp at hi;omega
      have h1:=hr.alone k i hkA (by omega) (by omega)
      rw [rowV_at (by omega)] at h1
      simpa [lcat,List.getElem_append_left (show i<A.length by omega)] using h1)
    rw [ek] at this
    exact one_ne_zero' ((hr.one k hkA).symm.trans this)
  · obtain⟨t,rfl⟩:∃ t,k=A.length+t:=⟨k-A.length,by omega⟩
    have ht:t<A.length:=by omega
    have ek:(lcat two A).getD (A.length+t) []=(A.getD t []).map (Fl.mul two):=by
      unfold lcat
      simp [List.getD_eq_getElem?_getD,List.getElem?_append_right,ht]
    have:=hrows (fun u=>b1 (u (lpiv (A.getD t [])))=Fl.zero) B.zero1 (fun u v hu hv=>by show b1 (Fl.add _ _)=_;rw [B.add1,hu,hv,Fl.add_zero]) (fun c u hu=>by show b1 (Fl.mul _ _)=_;rw [B.lift1,hu,Fl.mul_zero]) (fun x hx=>by
      obtain⟨i,hi,rfl⟩:=List.mem_iff_getElem.1 hx
      have hi':i<A.length+t:=by simp at hi;omega
      by_cases hiA:i<A.length
      · have e:((lcat two A).take (A.length+t))[i]=A.getD i []:=by
          rw [getD_at hiA];simp [lcat,List.getElem_append_left hiA]
        rw [e]
        by_cases hit:i=t
        · subst hit
          have h1:=hr.one i hiA
          show b1 (rowV A i (lpiv (A.getD i [])))=_
          rw [h1,B.one1]
        · have h1:=hr.alone t i ht hiA (fun h=>hit h.symm)
          show b1 (rowV A i (lpiv (A.getD t [])))=_
          rw [h1,B.zero1]
      · have e:((lcat two A).take (A.length+t))[i]=(A.getD (i-A.length) []).map (Fl.mul two):=by
          rw [getD_at (by omega)];simp [lcat,List.getElem_append_right (show A.length≤i by omega)]
        rw [e,toV_scale]
        have h1:=hr.alone t (i-A.length) ht (by omega) (by omega)
        show b1 (Fl.mul two (rowV A (i-A.length) (lpiv (A.getD t []))))=_
        rw [h1,Fl.mul_zero,B.zero1])
    rw [ek,toV_scale] at this
    change b1 (Fl.mul two (rowV A t (lpiv (A.getD t []))))=Fl.zero at this
    rw [hr.one t ht,Fl.mul_one,B.two1] at this
    exact one_ne_zero' this
end
theorem lrep_cd {cda:α→Nat} {cdb:β→Nat} (h0:∀ a,cdb (b0 a)=cda a % 2) (h1:∀ a,cdb (b1 a)=cda a / 2) (hz:cdb Fl.zero=0) (hc:∀ x y z w:β,cdb (Fl.add (Fl.mul x y) (Fl.mul z w))=(cdb x*cdb y+cdb z*cdb w) % 2) (m:Nat) (g h:List β) (x:List α) :
    (lrep b0 b1 m g h x).map cdb=repL m (g.map cdb) (h.map cdb) (x.map cda):=by
  have hg:∀ (l:List β) j,(l.map cdb).getD j 0=cdb (l.getD j Fl.zero):=fun l j=>by
    simp only [List.getD_eq_getElem?_getD,List.getElem?_map]
    cases l[j]? with
    | none=>exact hz.symm
    | some a=>rfl
  induction x with
  | nil=>rfl
  | cons a x ih =>
    unfold lrep repL at ih ⊢
    rw [List.flatMap_cons,List.map_append,ih,List.map_cons,List.flatMap_cons,List.map_map]
    congr 1
    refine List.map_congr_left fun j hj=>?_
    show cdb (Fl.add _ _)=repE _ _ _ _
    unfold repE
    rw [hc,h0,h1,hg,hg]
end
open Go Go.Proofs
namespace Pf
theorem fq42:∃ (α β:Type) (i1:Fl α) (i2:Fl β) (_:DecidableEq α) (_:DecidableEq β) (cda:α→Nat) (cdb:β→Nat) (p e p2 e2:Nat) (blk blk2:AB) (b0 b1:α→β) (two:α) (lift:β→α),
    FQ α cda p e (ordM 2) blk∧FQ β cdb p2 e2 2 blk2∧Bit2 b0 b1 two lift∧cda two=2∧(∀ a,cdb (b0 a)=cda a % 2)∧(∀ a,cdb (b1 a)=cda a / 2)∧(∀ x y z w:β,cdb (Fl.add (Fl.mul x y) (Fl.mul z w))=(cdb x*cdb y+cdb z*cdb w) % 2):=by
  letI i4:=flOf ft4
  letI i2:=flOf ft2
  refine⟨{n:Nat // n<2 ^ 2},{n:Nat // n<2 ^ 1},i4,i2,inferInstance,inferInstance,fun x=>x.1,fun x=>x.1,_,_,_,_,_,_,fun a=>⟨a.1 % 2,Nat.mod_lt _ (by decide)⟩,fun a=>⟨a.1 / 2,by have:=a.2;omega⟩,⟨2,by decide⟩,fun c=>⟨c.1,Nat.lt_trans c.2 (by decide)⟩,
    fq_of ft4 rfl (by decide +kernel) (kMake0_ok _ (List.mem_of_getElem? (i:=4) rfl)) (kMakr0_ok _ (List.mem_of_getElem? (i:=4) rfl)),fq_of ft2 rfl (by decide +kernel) (kMake0_ok _ (List.mem_of_getElem? (i:=2) rfl)) (kMakr0_ok _ (List.mem_of_getElem? (i:=2) rfl)),⟨?_,?_,?_,?_,?_,?_,?_,?_,?_,?_⟩,rfl,fun _=>rfl,fun _=>rfl,?_⟩
  · exact fun x y=>Subtype.ext ((by decide +kernel:∀ x,x<2 ^ 2→∀ y,y<2 ^ 2→addF 2 2 x y % 2=addF 2 1 (x % 2) (y % 2)) x.1 x.2 y.1 y.2)
  · exact fun x y=>Subtype.ext ((by decide +kernel:∀ x,x<2 ^ 2→∀ y,y<2 ^ 2→addF 2 2 x y / 2=addF 2 1 (x / 2) (y / 2)) x.1 x.2 y.1 y.2)
  · exact fun c x=>Subtype.ext ((by decide +kernel:∀ c,c<2 ^ 1→∀ x,x<2 ^ 2→mulF 2 2 [1,1] c x % 2=mulF 2 1 [0] c (x % 2)) c.1 c.2 x.1 x.2)
  · exact fun c x=>Subtype.ext ((by decide +kernel:∀ c,c<2 ^ 1→∀ x,x<2 ^ 2→mulF 2 2 [1,1] c x / 2=mulF 2 1 [0] c (x / 2)) c.1 c.2 x.1 x.2)
  · exact fun c x=>Subtype.ext ((by decide +kernel:∀ c,c<2 ^ 2→∀ x,x<2 ^ 2→mulF 2 2 [1,1] c x=addF 2 2 (mulF 2 2 [1,1] (c % 2) x) (mulF 2 2 [1,1] (c / 2) (mulF 2 2 [1,1] 2 x))) c.1 c.2 x.1 x.2)
  · intro x y h1 h2
    have h1:=congrArg Subtype.val h1
    have h2:=congrArg Subtype.val h2
    simp only at h1 h2
    exact Subtype.ext (by omega)
  · rfl
  · exact Subtype.ext (Nat.zero_div 2)
  · exact Subtype.ext (show 1 / 2=0 by decide)
  · first|rfl|exact Subtype.ext (show 2 / 2=1 by decide)
  · exact fun x y z w=>(by decide +kernel:∀ x,x<2 ^ 1→∀ y,y<2 ^ 1→∀ z,z<2 ^ 1→∀ w,w<2 ^ 1→addF 2 1 (mulF 2 1 [0] x y) (mulF 2 1 [0] z w)=(x*y+z*w) % 2) x.1 x.2 y.1 y.2 z.1 z.2 w.1 w.2
end Pf
end Go.Sim

namespace Go.Sim
open Go Go.Proofs
theorem apart_c {H:AH} {v w:Value} {xs ys:List Nat} (hv:Row H v (xs.map nv)) (hw:Row H w (ys.map nv)) (hl:xs.length=ys.length) (hx:xs.length≤1000) :
    FN Tryz.prog 46 [v,w] H (fun r H'=>(∃ n,r=nv n∧(n=0↔xs=ys))∧H'=H):=by
  refine g46_of ?_
  unfold g46
  obtain⟨vl,vi,vd,_⟩:=hv.all 0
  obtain⟨_,wi,wd,_⟩:=hw.all 0
  refine loopV2.nat xs.length (fun k m i H'=>(∃ n,m=nv n∧n≤k∧(n=0↔xs.take k=ys.take k))∧i=nv k∧H'=H) ⟨⟨0,rfl,Nat.le_refl _,by simp⟩,rfl,rfl⟩ ?_ ?_
  · rintro k m i H hk ⟨⟨n,rfl,hn,he⟩,rfl,rfl⟩ J hJ
    have hk2:k<ys.length:=by omega
    have ex:xs.take (k+1)=xs.take k++[xs.getD k 0]:=by rw [List.take_succ_eq_append_getElem hk];simp [List.getD_eq_getElem?_getD,List.getElem?_eq_getElem hk]
    have ey:ys.take (k+1)=ys.take k++[ys.getD k 0]:=by rw [List.take_succ_eq_append_getElem hk2];simp [List.getD_eq_getElem?_getD,List.getElem?_eq_getElem hk2]
    have hln:(xs.take k).length=(ys.take k).length:=by simp;omega
    simp (disch:=(first|omega|(simp only [stLen]<;>omega)|(simp only [all_nv];done)|rfl)) only [zA,zB,zC,zD,zF,zG,zH,Nat.reduceEqDiff,Nat.reduceLT,Nat.reduceLeDiff,↓reduceIte,vl,hk]
    refine joinV1.via (fun m' H'=>(∃ n,m'=nv n∧n≤k+1∧(n=0↔xs.take (k+1)=ys.take (k+1)))∧H'=H) ?_ ?_
    · intro J2 hJ2
      by_cases h0:xs.getD k 0=ys.getD k 0
      · simp (disch:=(first|omega|(simp only [stLen]<;>omega)|(simp only [all_nv];done)|rfl)) only [zA,zB,zC,zD,zF,zG,zH,Nat.reduceEqDiff,Nat.reduceLT,Nat.reduceLeDiff,↓reduceIte,vi,vd,hk,wi,wd,hk2,h0]
        refine hJ2 _ _ ⟨⟨n,rfl,by omega,?_⟩,rfl⟩
        rw [ex,ey,he,h0]
        exact⟨fun h=>by rw [h],fun h=>(List.append_inj h hln).1⟩
      · simp (disch:=(first|omega|(simp only [stLen]<;>omega)|(simp only [all_nv];done)|rfl)) only [zA,zB,zC,zD,zF,zG,zH,Nat.reduceEqDiff,Nat.reduceLT,Nat.reduceLeDiff,↓reduceIte,vi,vd,hk,wi,wd,hk2,h0]
        refine hJ2 _ _ ⟨⟨n+1,rfl,by omega,?_⟩,rfl⟩
        rw [ex,ey]
        constructor
        · intro h;omega
        · intro h
          exfalso
          have:=(List.append_inj h hln).2
          simp at this
          exact h0 (by simpa [List.getD_eq_getElem?_getD,List.getElem?_eq_getElem hk,List.getElem?_eq_getElem hk2] using this)
    · rintro m' H ⟨⟨n',rfl,hn',he'⟩,rfl⟩
      simp (disch:=(first|omega|(simp only [stLen]<;>omega)|(simp only [all_nv];done)|rfl)) only [zA,zB,zC,zD,zF,zG,zH,Nat.reduceEqDiff,Nat.reduceLT,Nat.reduceLeDiff,↓reduceIte]
      exact hJ _ _ _ ⟨⟨n',rfl,hn',he'⟩,rfl,rfl⟩
  · rintro m i H ⟨⟨n,rfl,hn,he⟩,rfl,rfl⟩ J
    simp (disch:=(first|omega|(simp only [stLen]<;>omega)|(simp only [all_nv];done)|rfl)) only [zA,zB,zC,zD,zF,zG,zH,Nat.reduceEqDiff,Nat.reduceLT,Nat.reduceLeDiff,↓reduceIte,vl]
    rw [List.take_of_length_le (Nat.le_refl _),List.take_of_length_le (by omega)] at he
    exact⟨n,rfl,he⟩
theorem replaced_c {H:AH} {v vi:Value} {m:Nat} {us:List Nat} {B:List (List Nat)} (hvi:RowR H vi (B.map fun l=>l.map nv)) (hB:B.length=2) (hBl:∀ l∈B,l.length=m∧∀ z∈l,z<2)
    (hv:Row H v (us.map nv)) (hus:∀ u∈us,u<4) (hul:us.length*m≤1000) (hm:m≤1000) (hul2:us.length≤1000) :
    FN Tryz.prog 43 [codv 2 m vi,v] H (fun r H'=>Pre H H'∧Row H' r ((repL m (B.getD 0 []) (B.getD 1 []) us).map nv)):=by
  refine g43_of ?_
  unfold g43
  have hio:=hvi.one'
  have hX:=Pre.new H [.cells [nv 2,nv m,vi] 29 none false]
  obtain⟨vs,hvs,hvl,hvr⟩:=hvi.openN
  obtain⟨hg0,hg1⟩:=hBl _ (getD_mem (l:=B) (k:=0) (d:=[]) (by omega))
  obtain⟨hh0,hh1⟩:=hBl _ (getD_mem (l:=B) (k:=1) (d:=[]) (by omega))
  have r0:=hvr 0 (by omega)
  have r1:=hvr 1 (by omega)
  obtain⟨g,hg⟩:∃ g,g=B.getD 0 []:=⟨_,rfl⟩
  obtain⟨h,hh⟩:∃ h,h=B.getD 1 []:=⟨_,rfl⟩
  rw [←hg] at hg0 hg1 r0 ⊢
  rw [←hh] at hh0 hh1 r1 ⊢
  obtain⟨w0,hw0⟩:∃ w,w=vs.getD 0 undef:=⟨_,rfl⟩
  obtain⟨w1,hw1⟩:∃ w,w=vs.getD 1 undef:=⟨_,rfl⟩
  rw [←hw0] at r0
  rw [←hw1] at r1
  simp (disch:=(first|omega|(simp only [stLen]<;>omega)|(simp only [all_nv];done)|rfl)) only [zA,zB,zC,zD,zF,zG,zH,Nat.reduceEqDiff,Nat.reduceLT,Nat.reduceLeDiff,↓reduceIte,hio]
  obtain⟨HX,hHX⟩:∃ HX,HX=H++[.cells [nv 2,nv m,vi] 29 none false]:=⟨_,rfl⟩
  have gi:HX[H.length]? = some (.cells [nv 2,nv m,vi] 29 none false):=by rw [hHX];simp
  have hXl:HX.length=H.length+1:=by rw [hHX];simp
  have e0:H++[.cells [nv 2,nv m,vi] 29 none false,.cells [] 3 none false]=HX++[.cells [] 3 none false]:=by rw [hHX];simp
  rw [e0]
  rw [←hHX] at hX
  refine loopV2.nat us.length (fun k out i H'=>i=nv k∧Pre HX H'∧Acc HX H' out ((repL m g h (us.take k)).map nv) 3) ⟨rfl,Pre.new _ _,?_⟩ ?_ ?_
  · have:=Own.new (H0:=HX) (H:=HX) (Nat.le_refl _) (cs:=[]) (e:=3) rfl (Y:=[])
    have:=this.acc
    rw [hXl] at this
    simpa [repL] using this
  · rintro k out i H1 hk ⟨rfl,hp1,ho⟩ J hJ
    obtain⟨vl,_,_,_⟩:=(hv.pre (hX.trans hp1)).all 0
    have hu4:us.getD k 0<4:=hus _ (getD_mem hk)
    obtain⟨u,hu⟩:∃ u,u=us.getD k 0:=⟨_,rfl⟩
    have hkm:(k+1)*m≤1000:=Nat.le_trans (Nat.mul_le_mul_right m hk) hul
    have hkm':k*m+m≤1000:=by rw [Nat.succ_mul] at hkm;exact hkm
    have hlen0:(repL m g h (us.take k)).length=k*m:=by rw [repL_len,List.length_take,Nat.min_eq_left (by omega)]
    have hus':us.take (k+1)=us.take k++[u]:=by
      rw [List.take_succ_eq_append_getElem hk,hu]
      simp [List.getD_eq_getElem?_getD,List.getElem?_eq_getElem hk]
    rw [←hu] at hu4
    simp (disch:=(first|omega|(simp only [stLen]<;>omega)|(simp only [all_nv];done)|rfl)) only [zA,zB,zC,zD,zF,zG,zH,Nat.reduceEqDiff,Nat.reduceLT,Nat.reduceLeDiff,↓reduceIte,vl,hk]
    refine loopV2.nat m (fun j out i H'=>i=nv j∧Pre HX H'∧Acc HX H' out ((repL m g h (us.take k)++(List.range j).map (repE g h u)).map nv) 3) ⟨rfl,hp1,by simpa using ho⟩ ?_ ?_
    · rintro j out i H2 hj ⟨rfl,hp2,ho2⟩ J2 hJ2
      have hpp:=hX.trans hp2
      have c2:=hp2.get gi
      obtain⟨_,vi',vd,_⟩:=(hv.pre hpp).all 0
      obtain⟨tl,ti,td,_⟩:=(hvs.pre hpp).allV
      have t0:=ti 0 (by omega)
      have t1:=ti 1 (by omega)
      have d0:=td 0 (by omega)
      have d1:=td 1 (by omega)
      rw [←hw0] at d0
      rw [←hw1] at d1
      have vdk:=vd k hk
      rw [←hu] at vdk
      obtain⟨_,i0,e0,_⟩:=(r0.pre hpp).all 0
      obtain⟨_,i1,e1,_⟩:=(r1.pre hpp).all 0
      have hjg:j<g.length:=by omega
      have hjh:j<h.length:=by omega
      have hz2:¬(2:Nat)=0:=by decide
      have hud:u / 2<4611686018427387904:=by omega
      obtain⟨q3,q3'⟩:=mul_bit (a:=u % 2) (b:=g.getD j 0) (by omega) (getD_lt2 hg1)
      obtain⟨q4,q4'⟩:=mul_bit (a:=u / 2) (b:=h.getD j 0) (by omega) (getD_lt2 hh1)
      have hl2:((repL m g h (us.take k)++(List.range j).map (repE g h u)).map nv).length≤1000:=by simp [hlen0];omega
      obtain⟨out',H5,e5,ho',hp',_⟩:=ho2.app1 (by_:=8) hp2.len (u:=nv ((u % 2*g.getD j 0+u / 2*h.getD j 0) % 2)) rfl (by omega) (by omega) (e2:=3)
      have f5:xfill [nv 0] [(0,1)] [nv ((u % 2*g.getD j 0+u / 2*h.getD j 0) % 2)]=some [nv ((u % 2*g.getD j 0+u / 2*h.getD j 0) % 2)]:=rfl
      simp (disch:=(first|omega|(simp only [stLen]<;>omega)|(simp only [all_nv];done)|rfl)) only [zA,zB,zC,zD,zF,zG,zH,Nat.reduceEqDiff,Nat.reduceLT,Nat.reduceLeDiff,↓reduceIte,hj,c2,vi',vdk,hk,hz2,hud,t0,t1,d0,d1,i0,i1,e0,e1,hjg,hjh,q3,q4,f5,e5]
      refine hJ2 _ _ _ ⟨rfl,hp' hp2,?_⟩
      have e:(repL m g h (us.take k)++(List.range (j+1)).map (repE g h u)).map nv=(repL m g h (us.take k)++(List.range j).map (repE g h u)).map nv++[nv ((u % 2*g.getD j 0+u / 2*h.getD j 0) % 2)]:=by
        simp [List.range_succ,repE]
      rw [e]
      exact ho'
    · rintro out i H2 ⟨rfl,hp2,ho2⟩ J2
      have c2:=hp2.get gi
      simp (disch:=(first|omega|(simp only [stLen]<;>omega)|(simp only [all_nv];done)|rfl)) only [zA,zB,zC,zD,zF,zG,zH,Nat.reduceEqDiff,Nat.reduceLT,Nat.reduceLeDiff,↓reduceIte,c2]
      refine hJ _ _ _ ⟨rfl,hp2,?_⟩
      rw [hus',repL_snoc]
      exact ho2
  · rintro out i H1 ⟨rfl,hp1,ho⟩ J
    obtain⟨vl,_,_,_⟩:=(hv.pre (hX.trans hp1)).all 0
    rw [List.take_length] at ho
    simp (disch:=(first|omega|(simp only [stLen]<;>omega)|(simp only [all_nv];done)|rfl)) only [zA,zB,zC,zD,zF,zG,zH,Nat.reduceEqDiff,Nat.reduceLT,Nat.reduceLeDiff,↓reduceIte,vl]
    exact⟨hX.trans hp1,ho.row⟩
section
variable {α:Type} [Fl α] [DecidableEq α] {cd:α→Nat} {p e b c q:Nat} {blk:AB} {H:AH}
theorem encode_c (Q:FQ α cd p e q blk) (hq:q≤16) {v mv:Value} {n:Nat} {A:List (List α)} {ms:List α} (hv:RowR H v (evr cd A)) (hm:Row H mv (evs cd ms)) (hA:LRed n A) (hlm:ms.length=A.length) (hn:n≤24) (hn0:1≤n) :
    FN Tryz.prog 45 [codv q n v,mv] H (fun r H'=>Pre H H'∧∃ w,r=.tuple [w,nv 0].toArray∧Row H' w (evs cd (lcomb n A ms))):=by
  refine g45_of ?_
  unfold g45
  have ho:=hv.one'
  have hle:=hA.le
  have hX:=Pre.new H [.cells [nv q,nv n,v] 29 none false]
  simp (disch:=(first|omega|(simp only [stLen]<;>omega)|(simp only [all_nv];done)|rfl)) only [zA,zB,zC,zD,zF,zG,zH,Nat.reduceEqDiff,Nat.reduceLT,Nat.reduceLeDiff,↓reduceIte,ho]
  refine FZ.mono (valid_c Q hq (hv.pre hX) hA hn hn0) ?_
  rintro _ H2 ⟨rfl,hp2⟩
  have g2:H2[H.length]? = some (.cells [nv q,nv n,v] 29 none false):=hp2.get (by simp)
  obtain⟨vs2,hvs2,hvl2,_⟩:=(hv.pre (hX.trans hp2)).open
  obtain⟨vl2,_,_,_⟩:=hvs2.allV
  rw [hvl2] at vl2
  simp (disch:=(first|omega|(simp only [stLen]<;>omega)|(simp only [all_nv];done)|rfl)) only [zA,zB,zC,zD,zF,zG,zH,Nat.reduceEqDiff,Nat.reduceLT,Nat.reduceLeDiff,↓reduceIte,g2,vl2]
  refine FZ.mono (word_c (Q.ok 0) (hm.pre (hX.trans hp2)) hlm (by omega)) ?_
  rintro _ H3 ⟨rfl,hp3⟩
  have g3:=hp3.get g2
  simp (disch:=(first|omega|(simp only [stLen]<;>omega)|(simp only [all_nv];done)|rfl)) only [zA,zB,zC,zD,zF,zG,zH,Nat.reduceEqDiff,Nat.reduceLT,Nat.reduceLeDiff,↓reduceIte,g3]
  refine FZ.mono (newOver_c Q hq) ?_
  rintro _ H4 ⟨hp4,b,rfl,hb4,hlb⟩
  have g4:=hp4.get g3
  have s5:=stB_three (H:=H4++[.cells [nv 0,nv 0,.slice none 0 0] 96 none false]) (bl:=H4.length) (x:=nv p) (y:=nv e) (z:=.slice (some ⟨b,0,none⟩) e e) (c0:=nv 0) (c1:=nv 0) (c2:=.slice none 0 0) (e:=96) (op:=none) rfl rfl rfl
  rw [set_last] at s5
  have hp45:=Pre.new H4 [.cells [nv p,nv e,.slice (some ⟨b,0,none⟩) e e] 96 none false]
  have g5:=hp45.get g4
  have hmk:8*n≤281474976710656:=by omega
  obtain⟨ml,_,_,_⟩:=hm.all Fl.zero
  rw [hlm] at ml
  simp (disch:=(first|omega|(simp only [stLen]<;>omega)|(simp only [all_nv];done)|rfl)) only [zA,zB,zC,zD,zF,zG,zH,Nat.reduceEqDiff,Nat.reduceLT,Nat.reduceLeDiff,↓reduceIte,s5,g5,xnew_makeN,hmk,ml]
  have hX5:=hX.trans (hp2.trans (hp3.trans (hp4.trans hp45)))
  have ob5:(H4++[.cells [nv p,nv e,.slice (some ⟨b,0,none⟩) e e] 96 none false])[H4.length]? = some (.cells [nv p,nv e,.slice (some ⟨b,0,none⟩) e e] 96 none false):=by simp
  have b5:=hp45.get hb4
  rw [zeros_ev (Q.ok 0)]
  have hl5:(H4++[AB.cells [nv p,nv e,.slice (some ⟨b,0,none⟩) e e] 96 none false]).length=H4.length+1:=by simp
  obtain⟨H5,hH5⟩:∃ H5,H5=H4++[.cells [nv p,nv e,.slice (some ⟨b,0,none⟩) e e] 96 none false]:=⟨_,rfl⟩
  have e6:H4++[AB.cells [nv p,nv e,.slice (some ⟨b,0,none⟩) e e] 96 none false,AB.cells (evs cd (List.replicate n (Fl.zero:α))) 3 none false]=H5++[AB.cells (evs cd (List.replicate n (Fl.zero:α))) 3 none false]:=by rw [hH5];simp
  rw [e6]
  rw [←hH5] at g5 hX5 ob5 b5 hl5
  clear hH5 e6 s5
  obtain⟨vs,hvs,hvl,hvr⟩:=(hv.pre hX5).open
  have hlH:=hX5.len
  refine loopV1.nat A.length (fun k i H'=>i=nv k∧Pre H5 H'∧H'[H5.length]? = some (.cells (evs cd (lcombk n A ms k)) 3 none false)) ⟨rfl,Pre.new _ _,by simp [lcombk]⟩ ?_ ?_
  · rintro k i H6 hk ⟨rfl,hp6,hw6⟩ J hJ
    have g6:=hp6.get g5
    have ob6:=hp6.get ob5
    have b6:=hp6.get b5
    have hX6:=hX5.trans hp6
    obtain⟨_,mi,md,_⟩:=(hm.pre hX6).all Fl.zero
    obtain⟨_,vi,vd,_⟩:=(hvs.pre hp6).allV
    have hk1:k<vs.length:=by omega
    have hk2:k<ms.length:=by omega
    have hxl:=row_len hA.len hk
    have hcl:=lcombk_length (cs:=ms) hA.len k (by omega)
    have hbn:b≠H5.length:=by have:=get_lt b5;omega
    simp (disch:=(first|omega|(simp only [stLen]<;>omega)|(simp only [all_nv];done)|rfl)) only [zA,zB,zC,zD,zF,zG,zH,Nat.reduceEqDiff,Nat.reduceLT,Nat.reduceLeDiff,↓reduceIte,hk,mi,md,hk2,ob6,g6,vi,vd,hk1]
    have hl6:=hp6.len
    have hadd:=cadd_c (Q.ok b) (a:=ms.getD k Fl.zero) b6 hbn hw6 (xs:=A.getD k []) (vx:=vs.getD k undef) (by omega) (by omega) (fun H' hH'=>(hvr k hk).pre fun x hx=>(hH' x (by omega) (by omega)).trans (hp6 x hx))
    rw [hcl,hl5] at hadd
    refine FZ.mono hadd ?_
    rintro v7 H7 ⟨z1,z2,z3⟩
    simp (disch:=(first|omega|(simp only [stLen]<;>omega)|(simp only [all_nv];done)|rfl)) only [zA,zB,zC,zD,zF,zG,zH,Nat.reduceEqDiff,Nat.reduceLT,Nat.reduceLeDiff,↓reduceIte]
    rw [lplus_more,←hl5] at z2
    refine hJ _ _ ⟨rfl,fun x hx=>(z1 x (by have:=hp6.len;omega) (by omega)).trans (hp6 x hx),z2⟩
  · rintro i H6 ⟨rfl,hp6,hw6⟩ J
    simp (disch:=(first|omega|(simp only [stLen]<;>omega)|(simp only [all_nv];done)|rfl)) only [zA,zB,zC,zD,zF,zG,zH,Nat.reduceEqDiff,Nat.reduceLT,Nat.reduceLeDiff,↓reduceIte]
    rw [hl5] at hw6
    exact⟨hX5.trans hp6,_,rfl,Row.of hw6 (by rw [List.length_map];exact (lcombk_length (cs:=ms) hA.len _ (Nat.le_refl _)).symm) (Nat.le_refl _)⟩
theorem cmessage_c (Q:FQ α cd p e q blk) (hq:q≤16) {v wv:Value} {n:Nat} {A:List (List α)} {xs:List α} (hv:RowR H v (evr cd A)) (hw:Row H wv (evs cd xs)) (hA:LRed n A) (hl:xs.length=n) (hs:LSpan A (toV xs)) (hn:n≤24) (hn0:1≤n) :
    FN Tryz.prog 44 [codv q n v,wv] H (fun r H'=>Pre H H'∧∃ m,r=.tuple [m,nv 0].toArray∧Row H' m (evs cd (lmsg A xs))):=by
  refine g44_of ?_
  unfold g44
  have ho:=hv.one'
  have hle:=hA.le
  have hX:=Pre.new H [.cells [nv q,nv n,v] 29 none false]
  simp (disch:=(first|omega|(simp only [stLen]<;>omega)|(simp only [all_nv];done)|rfl)) only [zA,zB,zC,zD,zF,zG,zH,Nat.reduceEqDiff,Nat.reduceLT,Nat.reduceLeDiff,↓reduceIte,ho]
  refine FZ.mono (valid_c Q hq (hv.pre hX) hA hn hn0) ?_
  rintro _ H2 ⟨rfl,hp2⟩
  have g2:H2[H.length]? = some (.cells [nv q,nv n,v] 29 none false):=hp2.get (by simp)
  simp (disch:=(first|omega|(simp only [stLen]<;>omega)|(simp only [all_nv];done)|rfl)) only [zA,zB,zC,zD,zF,zG,zH,Nat.reduceEqDiff,Nat.reduceLT,Nat.reduceLeDiff,↓reduceIte,g2]
  refine FZ.mono (word_c (Q.ok 0) (hw.pre (hX.trans hp2)) hl (by omega)) ?_
  rintro _ H3 ⟨rfl,hp3⟩
  have g3:=hp3.get g2
  have hX3:=hX.trans (hp2.trans hp3)
  obtain⟨vs,hvs,hvl,hvr⟩:=(hv.pre hX3).open
  obtain⟨vl,_,_,_⟩:=hvs.allV
  rw [hvl] at vl
  obtain⟨k,hk⟩:∃ k,k=A.length:=⟨_,rfl⟩
  have hml:(lmsg A xs).length=k:=by rw [hk];simp [lmsg]
  rw [←hk] at vl hvl
  have hmk:8*k≤281474976710656:=by omega
  have g4:=get_app g3 [.cells ((List.replicate k 0).map nv) 3 none false]
  simp (disch:=(first|omega|(simp only [stLen]<;>omega)|(simp only [all_nv];done)|rfl)) only [zA,zB,zC,zD,zF,zG,zH,Nat.reduceEqDiff,Nat.reduceLT,Nat.reduceLeDiff,↓reduceIte,g3,vl,xnew_makeN,hmk,g4]
  have tg:∀ j,j<k→(lmsg A xs).getD j Fl.zero=xs.getD (lpiv (A.getD j [])) Fl.zero:=fun j hj=>by
    simp [lmsg,List.getD_eq_getElem?_getD,List.getElem?_eq_getElem (show j<A.length by omega)]
  refine loopV1.nat k (fun t i H'=>i=nv t∧H'=H3++[.cells (tab k fun j=>if j<t then nv (cd ((lmsg A xs).getD j Fl.zero)) else nv 0) 3 none false]) ⟨rfl,?_⟩ ?_ ?_
  · congr 3
    rw [zeros_tab]
    congr 1
  · rintro t i _ ht ⟨rfl,rfl⟩ J hJ
    have hp4:=Pre.new H3 [.cells (tab k fun j=>if j<t then nv (cd ((lmsg A xs).getD j Fl.zero)) else nv 0) 3 none false]
    obtain⟨_,vi,vd,_⟩:=(hvs.pre hp4).allV
    have hk1:t<vs.length:=by omega
    have hkA:t<A.length:=by omega
    have hxl:=row_len hA.len hkA
    have hpn:lpiv (A.getD t [])<n:=hA.piv.2 _ (getD_mem hkA)
    have hpx:lpiv (A.getD t [])<xs.length:=by omega
    obtain⟨_,wi,wd,_⟩:=(hw.pre (hX3.trans hp4)).all Fl.zero
    simp (disch:=(first|omega|(simp only [stLen]<;>omega)|(simp only [all_nv];done)|rfl)) only [zA,zB,zC,zD,zF,zG,zH,Nat.reduceEqDiff,Nat.reduceLT,Nat.reduceLeDiff,↓reduceIte,ht,vi,vd,hk1]
    refine FZ.use (pivot_c (Q.ok 0) ((hvr t hkA).pre hp4) (by omega) (by omega)) ?_
    have st:=tab_st (H:=H3++[.cells (tab k fun j=>if j<t then nv (cd ((lmsg A xs).getD j Fl.zero)) else nv 0) 3 none false]) (bl:=H3.length) (n:=k) (f:=fun j=>if j<t then nv (cd ((lmsg A xs).getD j Fl.zero)) else nv 0) (g:=fun j=>if j<t+1 then nv (cd ((lmsg A xs).getD j Fl.zero)) else nv 0) (k:=t) (et:=3) (op:=none) (v:=nv (cd (xs.getD (lpiv (A.getD t [])) Fl.zero))) (by simp) ht rfl rfl (by
      show (if t<t+1 then _ else _)=_
      rw [if_pos (by omega),tg t ht]) (fun j hj hne=>by
      show (if j<t+1 then _ else _)=if j<t then _ else _
      by_cases h:j<t
      · rw [if_pos h,if_pos (by omega)]
      · rw [if_neg h,if_neg (by omega)])
    rw [set_last] at st
    simp (disch:=(first|omega|(simp only [stLen]<;>omega)|(simp only [all_nv];done)|rfl)) only [zA,zB,zC,zD,zF,zG,zH,Nat.reduceEqDiff,Nat.reduceLT,Nat.reduceLeDiff,↓reduceIte,wi,wd,hpx,ht,st]
    exact hJ _ _ ⟨rfl,rfl⟩
  · rintro i _ ⟨rfl,rfl⟩ J
    have e5:(tab k fun j=>if j<k then nv (cd ((lmsg A xs).getD j Fl.zero)) else nv 0)=evs cd (lmsg A xs):=by
      refine List.ext_getElem (by simp [tab,hml]) fun j h1 h2=>?_
      have hj:j<k:=by simpa [tab] using h1
      simp [tab,hj,List.getD_eq_getElem?_getD,List.getElem?_eq_getElem (show j<(lmsg A xs).length by omega)]
    rw [e5]
    have hp5:=Pre.new H3 [.cells (evs cd (lmsg A xs)) 3 none false]
    have g5:=hp5.get g3
    have hr5:Row (H3++[.cells (evs cd (lmsg A xs)) 3 none false]) (.slice (some ⟨H3.length,0,none⟩) k k) (evs cd (lmsg A xs)):=Row.of (b:=H3.length) (e:=3) (op:=none) (r:=false) (by simp) (by rw [List.length_map,hml]) (Nat.le_refl _)
    simp (disch:=(first|omega|(simp only [stLen]<;>omega)|(simp only [all_nv];done)|rfl)) only [zA,zB,zC,zD,zF,zG,zH,Nat.reduceEqDiff,Nat.reduceLT,Nat.reduceLeDiff,↓reduceIte,g5]
    refine FZ.mono (encode_c Q hq (hv.pre (hX3.trans hp5)) hr5 hA (by rw [hml,hk]) hn hn0) ?_
    rintro _ H6 ⟨hp6,w,rfl,hw6⟩
    rw [lmsg_back hA hl hs] at hw6
    have hwv6:=hw.pre (hX3.trans (hp5.trans hp6))
    rw [evs_nv] at hw6 hwv6
    simp (disch:=(first|omega|(simp only [stLen]<;>omega)|(simp only [all_nv];done)|rfl)) only [zA,zB,zC,zD,zF,zG,zH,Nat.reduceEqDiff,Nat.reduceLT,Nat.reduceLeDiff,↓reduceIte]
    refine FZ.use (equal_c hw6 hwv6 (by rw [List.length_map];omega)) ?_
    simp (disch:=(first|omega|(simp only [stLen]<;>omega)|(simp only [all_nv];done)|rfl)) only [zA,zB,zC,zD,zF,zG,zH,Nat.reduceEqDiff,Nat.reduceLT,Nat.reduceLeDiff,↓reduceIte]
    exact⟨hX3.trans (hp5.trans hp6),_,rfl,hr5.pre hp6⟩
theorem order_c (Q:FQ α cd p e q blk) (hq:q≤16):FN Tryz.prog 89 [nv q] H (fun r H'=>r=.bool true∧Pre H H'):=by
  refine g89_of ?_
  unfold g89
  refine FZ.use (Q.rmake _) ?_
  have s3:=stB_three (H:=H++[blk,.cells [nv 0,nv 0,.slice none 0 0] 76 none false]) (bl:=H.length+1) (x:=nv p) (y:=nv e) (z:=.slice (some ⟨H.length,0,none⟩) e e) (c0:=nv 0) (c1:=nv 0) (c2:=.slice none 0 0) (e:=76) (op:=none) rfl rfl rfl
  have e3:(H++[blk,AB.cells [nv 0,nv 0,.slice none 0 0] 76 none false]).set (H.length+1) (.cells [nv p,nv e,.slice (some ⟨H.length,0,none⟩) e e] 76 none false)=H++[blk,AB.cells [nv p,nv e,.slice (some ⟨H.length,0,none⟩) e e] 76 none false]:=by
    rw [List.set_append_right _ _ (by omega)];simp
  rw [e3] at s3
  simp (disch:=(first|omega|(simp only [stLen]<;>omega)|(simp only [all_nv];done)|rfl)) only [zA,zB,zC,zD,zF,zG,zH,Nat.reduceEqDiff,Nat.reduceLT,Nat.reduceLeDiff,↓reduceIte,s3,hq]
  exact Pre.new _ _
theorem rvalid_c (Q:FQ α cd p e q blk) (hq:q≤16) {v:Value} {n:Nat} {A:List (List α)} (hv:RowR H v (evr cd A)) (hA:LRed n A) (hn:n≤24) (hn0:1≤n) :
    FN Tryz.prog 41 [codv q n v] H (fun r H'=>r=.bool true∧Pre H H'):=by
  refine g41_of ?_
  unfold g41
  have ho:=hv.one'
  have hle:=hA.le
  have hX:=Pre.new H [.cells [nv q,nv n,v] 29 none false]
  simp (disch:=(first|omega|(simp only [stLen]<;>omega)|(simp only [all_nv];done)|rfl)) only [zA,zB,zC,zD,zF,zG,zH,Nat.reduceEqDiff,Nat.reduceLT,Nat.reduceLeDiff,↓reduceIte,ho]
  refine FZ.mono (order_c Q hq) ?_
  rintro _ H2 ⟨rfl,hp2⟩
  have g2:H2[H.length]? = some (.cells [nv q,nv n,v] 29 none false):=hp2.get (by simp)
  have hX2:=hX.trans hp2
  have hv2:=hv.pre hX2
  obtain⟨vs,hvs,hvl,hvr⟩:=hv2.open
  obtain⟨vl,vi,vd,_⟩:=hvs.allV
  rw [hvl] at vl
  have h1n:¬n<1:=by omega
  have hn24:¬24<n:=by omega
  have hAn:¬n<A.length:=by omega
  simp (disch:=(first|omega|(simp only [stLen]<;>omega)|(simp only [all_nv];done)|rfl)) only [zA,zB,zC,zD,zF,zG,zH,Nat.reduceEqDiff,Nat.reduceLT,Nat.reduceLeDiff,↓reduceIte,g2,h1n,hn24,vl,hAn]
  refine loopV1.nat A.length (fun k i H'=>i=nv k∧H'=H2) ⟨rfl,rfl⟩ ?_ ?_
  · rintro k i _ hk ⟨rfl,rfl⟩ J hJ
    have hk1:k<vs.length:=by omega
    simp (disch:=(first|omega|(simp only [stLen]<;>omega)|(simp only [all_nv];done)|rfl)) only [zA,zB,zC,zD,zF,zG,zH,Nat.reduceEqDiff,Nat.reduceLT,Nat.reduceLeDiff,↓reduceIte,g2,vl,hk,vi,vd,hk1]
    refine FZ.use (rword_c (Q.ok 0) (hvr k hk) (row_len hA.len hk) (by omega)) ?_
    simp (disch:=(first|omega|(simp only [stLen]<;>omega)|(simp only [all_nv];done)|rfl)) only [zA,zB,zC,zD,zF,zG,zH,Nat.reduceEqDiff,Nat.reduceLT,Nat.reduceLeDiff,↓reduceIte]
    exact hJ _ _ ⟨rfl,rfl⟩
  · rintro i _ ⟨rfl,rfl⟩ J
    simp (disch:=(first|omega|(simp only [stLen]<;>omega)|(simp only [all_nv];done)|rfl)) only [zA,zB,zC,zD,zF,zG,zH,Nat.reduceEqDiff,Nat.reduceLT,Nat.reduceLeDiff,↓reduceIte,g2,vl]
    refine FZ.mono (over_c Q) ?_
    rintro _ H3 ⟨hp3,b,rfl,hb⟩
    have g3:=hp3.get g2
    simp (disch:=(first|omega|(simp only [stLen]<;>omega)|(simp only [all_nv];done)|rfl)) only [zA,zB,zC,zD,zF,zG,zH,Nat.reduceEqDiff,Nat.reduceLT,Nat.reduceLeDiff,↓reduceIte,g3]
    refine FZ.mono (rreduce_c (Q.ok b) hb (hv2.pre hp3) hA.len (by omega) (by omega) hn0) ?_
    rintro w H4 ⟨hp4,hw⟩
    rw [lred_self hA] at hw
    have g4:=hp4.get g3
    simp (disch:=(first|omega|(simp only [stLen]<;>omega)|(simp only [all_nv];done)|rfl)) only [zA,zB,zC,zD,zF,zG,zH,Nat.reduceEqDiff,Nat.reduceLT,Nat.reduceLeDiff,↓reduceIte,g4]
    have hv4:=hv2.pre (hp3.trans hp4)
    rw [evr_nv] at hv4 hw
    refine FZ.use (rows_c hv4 hw.rowR (by rw [List.length_map];omega) (fun l hl=>by obtain⟨x,hx,rfl⟩:=List.mem_map.1 hl;rw [List.length_map,hA.len x hx];omega)) ?_
    simp (disch:=(first|omega|(simp only [stLen]<;>omega)|(simp only [all_nv];done)|rfl)) only [zA,zB,zC,zD,zF,zG,zH,Nat.reduceEqDiff,Nat.reduceLT,Nat.reduceLeDiff,↓reduceIte]
    exact hX2.trans (hp3.trans hp4)
end
end Go.Sim
