/- Part of the proof: MpE. -/
import Derived.Test.YtbfpepbfpebmmaaGreatMDuaMpD
import Derived.Test.YtbfpepbfpebmmaaGreatMDuaMoO
set_option linter.all false
namespace Go.Sim.Pf
open Go Go.Proofs
theorem fq_at2:∀ j,j<6→∃ (α:Type) (i1:Fl α) (_:DecidableEq α) (cd:α→Nat) (p e:Nat) (blk:AB),FQ α cd p e (ordM j) blk∧(ordM j % 2=0→∀ a:α,Fl.add a a=Fl.zero)
  | 0,_=>⟨_,flOf ft2,inferInstance,_,_,_,_,fq_of ft2 rfl (by decide +kernel) (kMake0_ok _ (List.mem_of_getElem? (i:=2) rfl)) (kMakr0_ok _ (List.mem_of_getElem? (i:=2) rfl)),fun _ a=>Subtype.ext ((by decide +kernel:∀ n,n<2 ^ 1→addF 2 1 n n=0) a.1 a.2)⟩
  | 1,_=>⟨_,flOf ft3,inferInstance,_,_,_,_,fq_of ft3 rfl (by decide +kernel) (kMake0_ok _ (List.mem_of_getElem? (i:=3) rfl)) (kMakr0_ok _ (List.mem_of_getElem? (i:=3) rfl)),fun h=>absurd h (by decide)⟩
  | 2,_=>⟨_,flOf ft4,inferInstance,_,_,_,_,fq_of ft4 rfl (by decide +kernel) (kMake0_ok _ (List.mem_of_getElem? (i:=4) rfl)) (kMakr0_ok _ (List.mem_of_getElem? (i:=4) rfl)),fun _ a=>Subtype.ext ((by decide +kernel:∀ n,n<2 ^ 2→addF 2 2 n n=0) a.1 a.2)⟩
  | 3,_=>⟨_,flOf ft5,inferInstance,_,_,_,_,fq_of ft5 rfl (by decide +kernel) (kMake0_ok _ (List.mem_of_getElem? (i:=5) rfl)) (kMakr0_ok _ (List.mem_of_getElem? (i:=5) rfl)),fun h=>absurd h (by decide)⟩
  | 4,_=>⟨_,flOf ft7,inferInstance,_,_,_,_,fq_of ft7 rfl (by decide +kernel) (kMake0_ok _ (List.mem_of_getElem? (i:=7) rfl)) (kMakr0_ok _ (List.mem_of_getElem? (i:=7) rfl)),fun h=>absurd h (by decide)⟩
  | 5,_=>⟨_,flOf ft8,inferInstance,_,_,_,_,fq_of ft8 rfl (by decide +kernel) (kMake0_ok _ (List.mem_of_getElem? (i:=8) rfl)) (kMakr0_ok _ (List.mem_of_getElem? (i:=8) rfl)),fun _ a=>Subtype.ext ((by decide +kernel:∀ n,n<2 ^ 3→addF 2 3 n n=0) a.1 a.2)⟩
  | n+6,h=>absurd h (by omega)
theorem ordM_le {j:Nat} (h:j<6):ordM j≤8:=(by decide +kernel:∀ j,j<6→ordM j≤8) j h
end Go.Sim.Pf
namespace Go.Sim
open Go Go.Proofs
theorem halves_get {n i:Nat} (hi:i<2*n):(halvesL n).getD i 0=(i+n) % (2*n):=by
  simp [halvesL,List.getD_eq_getElem?_getD,hi]
theorem halves_pm (n:Nat):Pm (n+n) (halvesL n):=by
  unfold Pm halvesL
  rw [Nat.two_mul,List.range_add,List.map_append,List.map_map]
  have e1:(List.range n).map (fun i=>(i+n) % (n+n))=(List.range n).map (n + ·):=List.map_congr_left fun i hi=>by
    rw [List.mem_range] at hi
    rw [Nat.mod_eq_of_lt (by omega),Nat.add_comm]
  have e2:(List.range n).map ((fun i=>(i+n) % (n+n))∘(n + ·))=List.range n:=by
    conv=>rhs;rw [←List.map_id (List.range n)]
    refine List.map_congr_left fun i hi=>?_
    rw [List.mem_range] at hi
    show (n+i+n) % (n+n)=i
    rw [show n+i+n=i+(n+n) by omega,Nat.add_mod_right,Nat.mod_eq_of_lt (by omega)]
  rw [e1,e2]
  exact List.perm_append_comm
theorem halves_move {α:Type} [Fl α] [DecidableEq α] (n:Nat) (v:Vc α):vmove (n+n) (halvesL n) v=fun j=>if j<n then v (j+n) else if j<n+n then v (j-n) else Fl.zero:=by
  funext j
  unfold vmove vpick
  have hp:=halves_pm n
  by_cases hj:j<n+n
  · rw [if_pos hj]
    have key:∀ i,i<n+n→(i+n) % (2*n)=j→(halvesL n).idxOf j=i:=fun i hi he=>by
      have:=idx_get hp hi
      rwa [halves_get (by omega),he] at this
    by_cases h1:j<n
    · rw [if_pos h1]
      show v ((halvesL n).idxOf j)=_
      rw [key (j+n) (by omega) (by rw [show j+n+n=j+2*n by omega,Nat.add_mod_right,Nat.mod_eq_of_lt (by omega)])]
    · rw [if_neg h1,if_pos hj]
      show v ((halvesL n).idxOf j)=_
      rw [key (j-n) (by omega) (by rw [Nat.sub_add_cancel (by omega),Nat.mod_eq_of_lt (by omega)])]
  · rw [if_neg hj,if_neg (by omega),if_neg hj]
theorem byte_mem6 {z0 z1 z2 z3 z4 z5:Nat} (hz:∀ z∈[z0,z1,z2,z3,z4,z5],z<256):z0<256:=hz z0 (by simp)
set_option maxRecDepth 4000 in
set_option maxHeartbeats 4000000 in
theorem law8 (hE:ExMo) {H:AH} {x y:Value} {us ws:List Nat} {k n m k2 n2 m2 z0 z1 z2 z3 z4 z5:Nat} (hm:m<256) (hm2:m2<256) (hz:∀ z∈[z0,z1,z2,z3,z4,z5],z<256) (hus:∀ u∈us,u<256) (hws:∀ u∈ws,u<256) (hx:Row H x (us.map bv)) (hy:Row H y (ws.map bv)) :
    FN Tryz.prog 8 [rawv k n m x,rawv k2 n2 m2 y,.agg [bv z0,bv z1,bv z2,bv z3,bv z4,bv z5].toArray] H (fun r H'=>r=.bool true∧H'=H):=by
  refine FN.pre0 (g8_of ?_) rfl
  unfold g8
  have hxo:=hx.one
  have hyo:=hy.one
  simp (disch:=omega) only [zA,zB,zC,zD,zF,zG,zH,↓reduceIte]
  refine FZ.use (hE _) ?_
  have s1:=stB_one (c:=[bv k2,bv n2,bv m2,y]) (e:=24) (op:=none) (H:=H++[.cells [bv k,bv n,bv m,x] 24 none false,.cells [bv k2,bv n2,bv m2,y] 24 none false,.cells [bv z0,bv z1,bv z2,bv z3,bv z4,bv z5] 25 none false]) (bl:=H.length+1) (o:=0) (v:=bv k) rfl rfl (by simp)
  have e1:(H++[AB.cells [bv k,bv n,bv m,x] 24 none false,AB.cells [bv k2,bv n2,bv m2,y] 24 none false,AB.cells [bv z0,bv z1,bv z2,bv z3,bv z4,bv z5] 25 none false]).set (H.length+1) (AB.cells ([bv k2,bv n2,bv m2,y].set 0 (bv k)) 24 none false)=H++[AB.cells [bv k,bv n,bv m,x] 24 none false,AB.cells [bv k,bv n2,bv m2,y] 24 none false,AB.cells [bv z0,bv z1,bv z2,bv z3,bv z4,bv z5] 25 none false]:=by
    rw [List.set_append_right _ _ (by omega)];simp
  rw [e1] at s1
  simp (disch:=omega) only [zA,zB,zC,zD,zF,zG,zH,↓reduceIte,s1]
  have hX0:=Pre.new H [.cells [bv k,bv n,bv m,x] 24 none false,.cells [bv k,bv n2,bv m2,y] 24 none false,.cells [bv z0,bv z1,bv z2,bv z3,bv z4,bv z5] 25 none false]
  obtain⟨HX,hHX⟩:∃ HX,HX=H++[.cells [bv k,bv n,bv m,x] 24 none false,.cells [bv k,bv n2,bv m2,y] 24 none false,.cells [bv z0,bv z1,bv z2,bv z3,bv z4,bv z5] 25 none false]:=⟨_,rfl⟩
  have gx1:HX[H.length+1]? = some (.cells [bv k,bv n2,bv m2,y] 24 none false):=by rw [hHX];simp
  have gx2:HX[H.length+2]? = some (.cells [bv z0,bv z1,bv z2,bv z3,bv z4,bv z5] 25 none false):=by rw [hHX];simp
  have hXl:HX.length=H.length+3:=by rw [hHX];simp
  rw [←hHX] at hX0 ⊢
  obtain⟨α,i1,i2,cd,p,e,blk,Q,hch⟩:=Pf.fq_at2 (k % 6) (Nat.mod_lt _ (by omega))
  refine FZ.mono (made_c Q rfl hm hus (hx.pre hX0)) ?_
  rintro _ H6 ⟨hp6,va,A,rfl,hA,hA8,hva⟩
  obtain⟨q,hq⟩:∃ q,q=Pf.ordM (k % 6):=⟨_,rfl⟩
  obtain⟨na,hna⟩:∃ na,na=1+n % 10:=⟨_,rfl⟩
  obtain⟨nb,hnb⟩:∃ nb,nb=1+n2 % 10:=⟨_,rfl⟩
  have hna1:1≤na∧na≤10:=by omega
  have hnb1:1≤nb∧nb≤10:=by omega
  rw [←hna] at hA ⊢
  rw [←hq]
  have sa:=stB_three (H:=H6++[.cells [nv 0,nv 0,.slice none 0 0] 29 none false]) (bl:=H6.length) (x:=nv q) (y:=nv na) (z:=va) (c0:=nv 0) (c1:=nv 0) (c2:=.slice none 0 0) (e:=29) (op:=none) rfl rfl hva.one
  rw [set_last] at sa
  have gx16:=get_app (hp6.get gx1) [.cells [nv q,nv na,va] 29 none false]
  simp (disch:=omega) only [zA,zB,zC,zD,zF,zG,zH,↓reduceIte,sa,gx16]
  have hX8:=hX0.trans (hp6.trans (Pre.new H6 [.cells [nv q,nv na,va] 29 none false]))
  obtain⟨H8,hH8⟩:∃ H8,H8=H6++[.cells [nv q,nv na,va] 29 none false]:=⟨_,rfl⟩
  have ga8:H8[H6.length]? = some (.cells [nv q,nv na,va] 29 none false):=by rw [hH8];simp
  have hA8':RowR H8 va (evr cd A):=by rw [hH8];exact hva.rowR.pre (Pre.new _ _)
  have gz8:H8[H.length+2]? = some (.cells [bv z0,bv z1,bv z2,bv z3,bv z4,bv z5] 25 none false):=by rw [hH8];exact get_app (hp6.get gx2) _
  rw [←hH8] at hX8 ⊢
  have hl6:=hp6.len
  have hl8:H8.length=H6.length+1:=by rw [hH8];simp
  clear sa gx16 hH8
  refine FZ.mono (made_c Q rfl hm2 hws (hy.pre hX8)) ?_
  rintro _ H9 ⟨hp9,vb,B,rfl,hB,hB8,hvb⟩
  rw [←hnb] at hB ⊢
  rw [←hq] at Q hch ⊢
  have sb:=stB_three (H:=H9++[.cells [nv 0,nv 0,.slice none 0 0] 29 none false]) (bl:=H9.length) (x:=nv q) (y:=nv nb) (z:=vb) (c0:=nv 0) (c1:=nv 0) (c2:=.slice none 0 0) (e:=29) (op:=none) rfl rfl hvb.one
  rw [set_last] at sb
  have ga9:=get_app (hp9.get ga8) [.cells [nv q,nv nb,vb] 29 none false]
  have gz9:=get_app (hp9.get gz8) [.cells [nv q,nv nb,vb] 29 none false]
  simp (disch:=omega) only [zA,zB,zC,zD,zF,zG,zH,↓reduceIte,sb,ga9]
  have hp11:Pre H8 (H9++[.cells [nv q,nv nb,vb] 29 none false]):=hp9.trans (Pre.new _ _)
  obtain⟨H11,hH11⟩:∃ H11,H11=H9++[.cells [nv q,nv nb,vb] 29 none false]:=⟨_,rfl⟩
  have gz11:H11[H.length+2]? = some (.cells [bv z0,bv z1,bv z2,bv z3,bv z4,bv z5] 25 none false):=by rw [hH11];exact gz9
  have gb11:H11[H9.length]? = some (.cells [nv q,nv nb,vb] 29 none false):=by rw [hH11];simp
  have hB11:RowR H11 vb (evr cd B):=by rw [hH11];exact hvb.rowR.pre (Pre.new _ _)
  rw [←hH11] at hp11 ga9 ⊢
  have hA11:=hA8'.pre hp11
  have hX11:=hX8.trans hp11
  have hl9:=hp9.len
  have hl11:H11.length=H9.length+1:=by rw [hH11];simp
  clear sb gz9 hH11
  have hq8:q≤8:=by rw [hq];exact Pf.ordM_le (Nat.mod_lt _ (by omega))
  have hq16:q≤16:=by omega
  have hbxl:∀ {Hx:AH} {n:Nat} {w:Value},one w=true→stB 3 (Hx++[.cells [nv 0,nv 0,.slice none 0 0] 29 none false]) (some (.cells [nv 0,nv 0,.slice none 0 0] 29 none false)) Hx.length 0 (codv q n w)=some (undef,Hx++[.cells [nv q,nv n,w] 29 none false]):=fun {Hx n w} hw=>by
    have:=stB_three (H:=Hx++[.cells [nv 0,nv 0,.slice none 0 0] 29 none false]) (bl:=Hx.length) (x:=nv q) (y:=nv n) (z:=w) (c0:=nv 0) (c1:=nv 0) (c2:=.slice none 0 0) (e:=29) (op:=none) rfl rfl hw
    rwa [set_last] at this
  refine FZ.mono (dual_c Q hq16 hA11 hA (by omega) (by omega)) ?_
  rintro _ H12 ⟨hp12,vda,rfl,hvda⟩
  have sda:=hbxl (Hx:=H12) (n:=na) hvda.one
  have gb12:=get_app (hp12.get gb11) [.cells [nv q,nv na,vda] 29 none false]
  simp (disch:=omega) only [zA,zB,zC,zD,zF,zG,zH,↓reduceIte,sda,gb12]
  have hp14:=Pre.new H12 [.cells [nv q,nv na,vda] 29 none false]
  obtain⟨H14,hH14⟩:∃ H14,H14=H12++[.cells [nv q,nv na,vda] 29 none false]:=⟨_,rfl⟩
  have gda14:H14[H12.length]? = some (.cells [nv q,nv na,vda] 29 none false):=by rw [hH14];simp
  rw [←hH14] at hp14 ⊢
  clear hH14 sda gb12
  have hp1114:=hp12.trans hp14
  refine FZ.mono (dual_c Q hq16 (hB11.pre hp1114) hB (by omega) (by omega)) ?_
  rintro _ H15 ⟨hp15,vdb,rfl,hvdb⟩
  have sdb:=hbxl (Hx:=H15) (n:=nb) hvdb.one
  have hp17:=Pre.new H15 [.cells [nv q,nv nb,vdb] 29 none false]
  have hp1117:=hp1114.trans (hp15.trans hp17)
  have ga17:=hp1117.get ga9
  simp (disch:=omega) only [zA,zB,zC,zD,zF,zG,zH,↓reduceIte,sdb,ga17]
  obtain⟨H17,hH17⟩:∃ H17,H17=H15++[.cells [nv q,nv nb,vdb] 29 none false]:=⟨_,rfl⟩
  have gdb17:H17[H15.length]? = some (.cells [nv q,nv nb,vdb] 29 none false):=by rw [hH17];simp
  rw [←hH17] at hp17 hp1117 ga17 ⊢
  clear hH17 sdb
  have gda17:=(hp15.trans hp17).get gda14
  have gb17:=hp1117.get gb11
  have gz17:=hp1117.get gz11
  have hA17:=hA11.pre hp1117
  have hB17:=hB11.pre hp1117
  have hDA17:=hvda.rowR.pre (hp14.trans (hp15.trans hp17))
  have hDB17:=hvdb.rowR.pre hp17
  have hDA:=dual_red hA
  have hDB:=dual_red hB
  have hdal:=hDA.le
  have hdbl:=hDB.le
  have hX17:=hX11.trans hp1117
  have pc:∀ q n (v:Value) er,xpure (.prt (some 3) 0) [gotv q n v er]=some (codv q n v):=fun _ _ _ _=>rfl
  have hz0:=byte_mem6 hz
  refine joinV0.via (fun H'=>Pre H17 H') ?_ ?_
  · intro J hJ
    by_cases hna2:1<na
    · have cz:xpure (.conv .i64) [bv z0]=some (nv z0):=xp_convN (by omega)
      have hnz:¬na=0:=by omega
      have ixz:xpure (.ixA 6 1) [.pointer (some ⟨H.length+2,0,none⟩),nv 0]=some (.pointer (some ⟨H.length+2,0,none⟩)):=by rw [xp_ixAN (by omega)]
      obtain⟨i,hi⟩:∃ i,i=z0 % na:=⟨_,rfl⟩
      have hin:i<na:=by rw [hi];exact Nat.mod_lt _ (by omega)
      simp (disch:=omega) only [zA,zB,zC,zD,zF,zG,zH,↓reduceIte,hna2,ixz,gz17,cz,hnz,gda17,ga17]
      rw [←hi]
      refine FZ.mono (shortened_c Q hDA17 hDA.len (by omega) (by omega) (by omega) hin) ?_
      rintro _ H18 ⟨hp18,v18,rfl,hv18⟩
      rw [dual_punct hA hin] at hv18
      have ga18:=hp18.get ga17
      simp (disch:=omega) only [zA,zB,zC,zD,zF,zG,zH,↓reduceIte,ga18]
      refine FZ.mono (punctured_c Q (hA17.pre hp18) hA.len (by omega) (by omega) (by omega) hin) ?_
      rintro _ H19 ⟨hp19,v19,rfl,hv19⟩
      have hPA:=((Cd.self hA).punct hin).red
      simp (disch:=omega) only [zA,zB,zC,zD,zF,zG,zH,↓reduceIte,pc]
      refine FZ.mono (dual_c Q hq16 hv19.rowR hPA (by omega) (by omega)) ?_
      rintro _ H20 ⟨hp20,v20,rfl,hv20⟩
      have hpl:(lkernel (na-1) (lreduce (A.map (pick (na-1) (skipP i))))).length≤1000:=by have:=(dual_red hPA).le;omega
      have hpw:∀ x∈lkernel (na-1) (lreduce (A.map (pick (na-1) (skipP i)))),x.length≤1000:=fun x hx=>by rw [(dual_red hPA).len x hx];omega
      refine FZ.use (is_c (hv18.rowR.pre (hp19.trans hp20)) hv20.rowR hpl hpw) ?_
      have hp1720:=hp18.trans (hp19.trans hp20)
      have gda20:=hp1720.get gda17
      have ga20:=hp1720.get ga17
      simp (disch:=omega) only [zA,zB,zC,zD,zF,zG,zH,↓reduceIte,gda20,ga20]
      refine FZ.mono (punctured_c Q (hDA17.pre hp1720) hDA.len (by omega) (by omega) (by omega) hin) ?_
      rintro _ H26 ⟨hp26,v26,rfl,hv26⟩
      rw [dual_short hA hin] at hv26
      have ga26:=hp26.get ga20
      simp (disch:=omega) only [zA,zB,zC,zD,zF,zG,zH,Nat.reduceEqDiff,Nat.reduceLT,Nat.reduceLeDiff,↓reduceIte,ga26]
      refine FZ.mono (shortened_c Q (hA17.pre (hp1720.trans hp26)) hA.len (by omega) (by omega) (by omega) hin) ?_
      rintro _ H28 ⟨hp28,v28,rfl,hv28⟩
      have hSA:=((Cd.self hA).short hin).red
      simp (disch:=omega) only [zA,zB,zC,zD,zF,zG,zH,↓reduceIte,pc]
      refine FZ.mono (dual_c Q hq16 hv28.rowR hSA (by omega) (by omega)) ?_
      rintro _ H31 ⟨hp31,v31,rfl,hv31⟩
      simp (disch:=omega) only [zA,zB,zC,zD,zF,zG,zH,↓reduceIte]
      have hpl2:(lkernel (na-1) (lreduce ((lkept (fun v=>v i) A).map (pick (na-1) (skipP i))))).length≤1000:=by have:=(dual_red hSA).le;omega
      have hpw2:∀ x∈lkernel (na-1) (lreduce ((lkept (fun v=>v i) A).map (pick (na-1) (skipP i)))),x.length≤1000:=fun x hx=>by rw [(dual_red hSA).len x hx];omega
      refine FZ.use (is_c (hv26.rowR.pre (hp28.trans hp31)) hv31.rowR hpl2 hpw2) ?_
      simp (disch:=omega) only [zA,zB,zC,zD,zF,zG,zH,↓reduceIte]
      exact hJ _ (hp1720.trans (hp26.trans (hp28.trans hp31)))
    · simp (disch:=omega) only [zA,zB,zC,zD,zF,zG,zH,↓reduceIte,hna2]
      exact hJ _ (Pre.refl _)
  intro H36 hp36
  have ga36:=hp36.get ga17
  have gz36:=hp36.get gz17
  simp (disch:=(first|omega|(simp only [stLen]<;>omega)|(simp only [all_nv];done)|rfl)) only [zA,zB,zC,zD,zF,zG,zH,Nat.reduceEqDiff,Nat.reduceLT,Nat.reduceLeDiff,↓reduceIte,ga36,gz36]
  refine FZ.mono bytes_c ?_
  rintro vz H37 ⟨hp37,hvz⟩
  have ga37:=hp37.get ga36
  simp (disch:=omega) only [zA,zB,zC,zD,zF,zG,zH,↓reduceIte,ga37]
  refine FZ.mono (shuffled_c (n:=na) (fun u hu=>hz u hu) hvz (by omega)) ?_
  rintro vg H38 ⟨hp38,hvg⟩
  have hpm:=shuf_pm [z0,z1,z2,z3,z4,z5] na
  obtain⟨g,hg⟩:∃ g,g=shuf [z0,z1,z2,z3,z4,z5] na:=⟨_,rfl⟩
  rw [←hg] at hpm hvg
  have hp1738:=hp36.trans (hp37.trans hp38)
  have ga38:=hp1738.get ga17
  have gb38:=hp1738.get gb17
  have gda38:=hp1738.get gda17
  have gdb38:=hp1738.get gdb17
  have hA38:=hA17.pre hp1738
  have hB38:=hB17.pre hp1738
  have hDA38:=hDA17.pre hp1738
  have hDB38:=hDB17.pre hp1738
  simp (disch:=omega) only [zA,zB,zC,zD,zF,zG,zH,↓reduceIte,ga38,gb38,gda38,gdb38]
  refine FZ.mono (summed_c Q hDA38 hDB38 hDA.len hDB.len (by omega) (by omega) hna1.1 hnb1.1 (by omega)) ?_
  rintro _ H39 ⟨hp39,v39,rfl,hv39⟩
  rw [dual_sum hA hB] at hv39
  have ga39:=hp39.get ga38
  have gb39:=hp39.get gb38
  simp (disch:=omega) only [zA,zB,zC,zD,zF,zG,zH,↓reduceIte,ga39,gb39]
  refine FZ.mono (summed_c Q (hA38.pre hp39) (hB38.pre hp39) hA.len hB.len (by omega) (by omega) hna1.1 hnb1.1 (by omega)) ?_
  rintro _ H40 ⟨hp40,v40,rfl,hv40⟩
  have hSm:=(Cd.sum (Cd.self hA) (Cd.self hB)).red
  simp (disch:=omega) only [zA,zB,zC,zD,zF,zG,zH,↓reduceIte,pc]
  refine FZ.mono (dual_c Q hq16 hv40.rowR hSm (by omega) (by omega)) ?_
  rintro _ H41 ⟨hp41,v41,rfl,hv41⟩
  have hle8:=(dual_red hSm).le
  refine FZ.use (is_c (hv39.rowR.pre (hp40.trans hp41)) hv41.rowR (by omega) (fun x hx=>by rw [(dual_red hSm).len x hx];omega)) ?_
  have hp3841:=hp39.trans (hp40.trans hp41)
  have ga41:=hp3841.get ga38
  have gda41:=hp3841.get gda38
  simp (disch:=omega) only [zA,zB,zC,zD,zF,zG,zH,↓reduceIte,ga41,gda41]
  refine FZ.mono (turned_c Q (hDA38.pre hp3841) (hvg.pre hp3841) hpm hDA.len (by omega) (by omega) hna1.1) ?_
  rintro _ H47 ⟨hp47,v47,rfl,hv47⟩
  rw [dual_move hpm hA] at hv47
  have ga47:=hp47.get ga41
  simp (disch:=omega) only [zA,zB,zC,zD,zF,zG,zH,Nat.reduceEqDiff,Nat.reduceLT,Nat.reduceLeDiff,↓reduceIte,ga47]
  refine FZ.mono (turned_c Q (hA38.pre (hp3841.trans hp47)) (hvg.pre (hp3841.trans hp47)) hpm hA.len (by omega) (by omega) hna1.1) ?_
  rintro _ H49 ⟨hp49,v49,rfl,hv49⟩
  have hTA:=((Cd.self hA).move (g:=g)).red
  simp (disch:=omega) only [zA,zB,zC,zD,zF,zG,zH,↓reduceIte,pc]
  refine FZ.mono (dual_c Q hq16 hv49.rowR hTA (by omega) (by omega)) ?_
  rintro _ H52 ⟨hp52,v52,rfl,hv52⟩
  have hle9:=(dual_red hTA).le
  simp (disch:=omega) only [zA,zB,zC,zD,zF,zG,zH,↓reduceIte]
  refine FZ.use (is_c (hv47.rowR.pre (hp49.trans hp52)) hv52.rowR (by omega) (fun x hx=>by rw [(dual_red hTA).len x hx];omega)) ?_
  have hp3852:=hp3841.trans (hp47.trans (hp49.trans hp52))
  have ga52:=hp3852.get ga38
  simp (disch:=omega) only [zA,zB,zC,zD,zF,zG,zH,↓reduceIte,ga52]
  refine FZ.mono (extended_c Q (hA38.pre hp3852) hA.len (by omega) (by omega) (by omega)) ?_
  rintro _ H61 ⟨hp61,v61,rfl,hv61⟩
  obtain⟨hXA,_,_⟩:=lreduce_red ((LM.ext na).width hA.len)
  have ga61:=hp61.get ga52
  simp (disch:=omega) only [zA,zB,zC,zD,zF,zG,zH,Nat.reduceEqDiff,Nat.reduceLT,Nat.reduceLeDiff,↓reduceIte,pc,ga61]
  refine FZ.mono (dual_c Q hq16 hv61.rowR hXA (by omega) (by omega)) ?_
  rintro _ H64 ⟨hp64,v64,rfl,hv64⟩
  have ga64:=hp64.get ga61
  simp (disch:=omega) only [zA,zB,zC,zD,zF,zG,zH,Nat.reduceEqDiff,Nat.reduceLT,Nat.reduceLeDiff,↓reduceIte,ga64]
  refine FZ.mono (ones_c (by omega)) ?_
  rintro r66 H66 ⟨hp66,hr66⟩
  have one_ev:∀ k,(List.replicate k 1).map nv=evs cd (List.replicate k (Fl.one:α)):=fun k=>by simp [evs,(Q.ok 0).one]
  rw [one_ev] at hr66
  simp (disch:=omega) only [zA,zB,zC,zD,zF,zG,zH,↓reduceIte]
  refine FZ.mono (has_c Q (hv64.rowR.pre hp66) hr66 (dual_red hXA) (by simp) (by rw [toV_ones];exact dual_ext_one hA) (by omega)) ?_
  rintro _ H68 ⟨hp68,rfl⟩
  simp (disch:=omega) only [zA,zB,zC,zD,zF,zG,zH,↓reduceIte]
  have hp3868:=hp3852.trans (hp61.trans (hp64.trans (hp66.trans hp68)))
  have hp1768:=hp1738.trans hp3868
  refine joinV0.via (fun H'=>Pre H17 H') ?_ ?_
  · intro J hJ
    have ga68:=hp1768.get ga17
    by_cases hq2:q=2
    · have hd:decide (q=2)=true:=decide_eq_true hq2
      simp (disch:=omega) only [zA,zB,zC,zD,zF,zG,zH,↓reduceIte,ga68,hd]
      refine FZ.mono (evened_q hq2 Q (hA17.pre hp1768) hA.len (by omega) (by omega) hna1.1) ?_
      rintro _ H71 ⟨hp71,v71,rfl,hv71⟩
      have hEA:=lev_red (f:=vsum na) hA.len
      simp (disch:=omega) only [zA,zB,zC,zD,zF,zG,zH,↓reduceIte,pc]
      refine FZ.mono (dual_c Q hq16 hv71.rowR hEA (by omega) (by omega)) ?_
      rintro _ H72 ⟨hp72,v72,rfl,hv72⟩
      have s72:=hbxl (Hx:=H72) (n:=na) hv72.one
      have hp74:=Pre.new H72 [.cells [nv q,nv na,v72] 29 none false]
      have ge74:(H72++[.cells [nv q,nv na,v72] 29 none false])[H72.length]? = some (.cells [nv q,nv na,v72] 29 none false):=by simp
      have hp1774:=hp1768.trans (hp71.trans (hp72.trans hp74))
      have ga74:=hp1774.get ga17
      have hE74:=hv72.rowR.pre hp74
      simp (disch:=omega) only [zA,zB,zC,zD,zF,zG,zH,↓reduceIte,s72]
      obtain⟨H74,hH74⟩:∃ H74,H74=H72++[.cells [nv q,nv na,v72] 29 none false]:=⟨_,rfl⟩
      rw [←hH74] at hp74 ge74 hp1774 ga74 hE74 ⊢
      clear s72 hH74
      simp (disch:=omega) only [zA,zB,zC,zD,zF,zG,zH,↓reduceIte,ge74,ga74]
      refine FZ.mono (ones_c (by omega)) ?_
      rintro r75 H75 ⟨hp75,hr75⟩
      rw [one_ev] at hr75
      have ge75:=hp75.get ge74
      simp (disch:=omega) only [zA,zB,zC,zD,zF,zG,zH,↓reduceIte,ge75]
      refine FZ.mono (has_c Q (hE74.pre hp75) hr75 (dual_red hEA) (by simp) (by rw [toV_ones];exact dual_even_one hA) (by omega)) ?_
      rintro _ H76 ⟨hp76,rfl⟩
      simp (disch:=omega) only [zA,zB,zC,zD,zF,zG,zH,↓reduceIte]
      refine loopV1.nat (lkernel na A).length (fun k i H'=>i=nv k∧Pre H76 H') ⟨rfl,Pre.refl _⟩ ?_ ?_
      · rintro k i H77 hk ⟨rfl,hp77⟩ J2 hJ2
        have hp7477:=hp75.trans (hp76.trans hp77)
        have hp1777:=hp1774.trans hp7477
        have gda77:=hp1777.get gda17
        have ge77:=hp7477.get ge74
        obtain⟨vs,hvs,hvl,hvr⟩:=(hDA17.pre hp1777).open
        obtain⟨vl,vi,vd,_⟩:=hvs.allV
        rw [hvl] at vl
        have hk1:k<vs.length:=by omega
        have hxl:=row_len hDA.len hk
        simp (disch:=omega) only [zA,zB,zC,zD,zF,zG,zH,↓reduceIte,gda77,vl,hk,ge77,vi,vd,hk1]
        refine FZ.mono (has_c Q (hE74.pre hp7477) (hvr k hk) (dual_red hEA) hxl (dual_even_sub hA (span_at hk)) (by omega)) ?_
        rintro _ H78 ⟨hp78,rfl⟩
        simp (disch:=omega) only [zA,zB,zC,zD,zF,zG,zH,↓reduceIte]
        exact hJ2 _ _ ⟨rfl,hp77.trans hp78⟩
      · rintro i H77 ⟨rfl,hp77⟩ J2
        have hp1777:=hp1774.trans (hp75.trans (hp76.trans hp77))
        have gda77:=hp1777.get gda17
        obtain⟨vs,hvs,hvl,_⟩:=(hDA17.pre hp1777).open
        obtain⟨vl,_,_,_⟩:=hvs.allV
        rw [hvl] at vl
        simp (disch:=omega) only [zA,zB,zC,zD,zF,zG,zH,↓reduceIte,gda77,vl]
        exact hJ _ hp1777
    · have hd:decide (q=2)=false:=decide_eq_false hq2
      simp (disch:=omega) only [zA,zB,zC,zD,zF,zG,zH,↓reduceIte,ga68,hd]
      exact hJ _ hp1768
  intro H79 hp79
  have ga79:=hp79.get ga17
  have gb79:=hp79.get gb17
  have hpre79:=hX17.trans hp79
  by_cases hab:na=nb
  · by_cases hodd:q % 2=1
    · have h2:¬(2:Nat)=0:=by decide
      simp (disch:=omega) only [zA,zB,zC,zD,zF,zG,zH,↓reduceIte,ga79,gb79,hab,h2,hodd]
      exact hpre79
    · have hev:q % 2=0:=by omega
      have h2:¬(2:Nat)=0:=by decide
      have gda79:=hp79.get gda17
      have gdb79:=hp79.get gdb17
      simp (disch:=omega) only [zA,zB,zC,zD,zF,zG,zH,↓reduceIte,ga79,gb79,hab,h2,hodd]
      subst hab
      have hp84:=Pre.new H79 [.cells [nv 0,nv 0,.slice none 0 0,nv 0] 37 none false]
      have hp1784:=hp79.trans hp84
      have ga84:=hp1784.get ga17
      have gx84:(H79++[.cells [nv 0,nv 0,.slice none 0 0,nv 0] 37 none false])[H79.length]? = some (.cells [nv 0,nv 0,.slice none 0 0,nv 0] 37 none false):=by simp
      simp (disch:=omega) only [zA,zB,zC,zD,zF,zG,zH,↓reduceIte,gda79,gdb79,ga79]
      refine FZ.mono (doubled_c Q (hDB17.pre hp1784) (hDA17.pre hp1784) hDB.len hDA.len (by omega) (by omega) hna1.1 (by omega)) ?_
      rintro _ H85 ⟨hp85,v85,rfl,hv85⟩
      have ga85:=hp85.get ga84
      simp (disch:=omega) only [zA,zB,zC,zD,zF,zG,zH,↓reduceIte,pc,ga85]
      refine FZ.mono (halves_c (by omega)) ?_
      rintro vh H86 ⟨hp86,hvh⟩
      have hpmh:=halves_pm na
      have hDD:=(Cd.dbl (Cd.self hDB) (Cd.self hDA)).red
      have hDDl:=hDD.le
      simp (disch:=omega) only [zA,zB,zC,zD,zF,zG,zH,↓reduceIte]
      refine FZ.mono (turned_c Q (hv85.rowR.pre hp86) hvh hpmh hDD.len (by omega) (by omega) (by omega)) ?_
      rintro _ H87 ⟨hp87,v87,rfl,hv87⟩
      rw [dual_dbl (hch hev) hA hB (halves_move na)] at hv87
      have hp8487:=hp85.trans (hp86.trans hp87)
      have gx87:=hp8487.get gx84
      have sx:=stB_four (H:=H87) (bl:=H79.length) (x:=nv q) (y:=nv (na+na)) (z:=v87) (u:=nv 0) (c0:=nv 0) (c1:=nv 0) (c2:=.slice none 0 0) (c3:=nv 0) (e:=37) (op:=none) rfl rfl hv87.one rfl
      have hl8487:=hp8487.len
      simp only [List.length_append,List.length_cons,List.length_nil] at hl8487
      obtain⟨H88,hH88⟩:∃ H88,H88=H87.set H79.length (.cells [nv q,nv (na+na),v87,nv 0] 37 none false):=⟨_,rfl⟩
      have gx88:H88[H79.length]? = some (.cells [nv q,nv (na+na),v87,nv 0] 37 none false):=by rw [hH88];exact List.getElem?_set_self (get_lt gx87)
      have hp88:Pre H79 H88:=by rw [hH88];exact ((hp84.trans hp8487)).set (Nat.le_refl _) _
      have hl86:=hp86.len
      have hl85:=hp85.len
      simp only [List.length_append,List.length_cons,List.length_nil] at hl85
      have hv88:RowR H88 v87 (evr cd (lkernel (na+na) (lreduce (ldbl na A B)))):=by rw [hH88];exact (hv87.setLow (x:=H79.length) (by omega)).rowR
      rw [←hH88] at sx
      have ga88:=(hp79.trans hp88).get ga17
      have gb88:=(hp79.trans hp88).get gb17
      have hA88:=hA17.pre (hp79.trans hp88)
      have hB88:=hB17.pre (hp79.trans hp88)
      simp (disch:=omega) only [zA,zB,zC,zD,zF,zG,zH,↓reduceIte,gx87,sx,gx88,ga88,gb88]
      refine FZ.mono (doubled_c Q hA88 hB88 hA.len hB.len (by omega) (by omega) hna1.1 (by omega)) ?_
      rintro _ H92 ⟨hp92,v92,rfl,hv92⟩
      have gx92:=hp92.get gx88
      have hDb:=(Cd.dbl (Cd.self hA) (Cd.self hB)).red
      have hDbl:=(dual_red hDb).le
      simp (disch:=omega) only [zA,zB,zC,zD,zF,zG,zH,↓reduceIte,gx92,pc]
      refine FZ.mono (dual_c Q hq16 hv92.rowR hDb (by omega) (by omega)) ?_
      rintro _ H95 ⟨hp95,v95,rfl,hv95⟩
      have gx95:=hp95.get gx92
      simp (disch:=omega) only [zA,zB,zC,zD,zF,zG,zH,↓reduceIte,gx95]
      refine FZ.use (is_c (hv88.pre (hp92.trans hp95)) hv95.rowR (by omega) (fun x hx=>by rw [(dual_red hDb).len x hx];omega)) ?_
      simp (disch:=omega) only [zA,zB,zC,zD,zF,zG,zH,↓reduceIte]
      exact hpre79.trans (hp88.trans (hp92.trans hp95))
  · simp (disch:=omega) only [zA,zB,zC,zD,zF,zG,zH,↓reduceIte,ga79,gb79,hab]
    exact hpre79
end Go.Sim
