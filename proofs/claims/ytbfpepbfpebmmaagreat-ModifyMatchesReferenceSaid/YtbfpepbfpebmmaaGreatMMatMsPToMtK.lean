/- Part of the proof: MsP, MtB, MtC, MtD, MtE, MtF, MtG, MtH, MtI, MtJ, MtK. -/
import Derived.Test.YtbfpepbfpebmmaaGreatMMatMpHToMpI
import Derived.Test.YtbfpepbfpebmmaaGreatMMatMpL
import Derived.Test.YtbfpepbfpebmmaaGreatMMatZSpX1ToMpC
import Derived.Test.YtbfpepbfpebmmaaGreatMMatMtA
import Derived.Test.YtbfpepbfpebmmaaGreatMMatMpG
import Derived.Test.YtbfpepbfpebmmaaGreatMMatMoTToMoN
import Derived.Test.YtbfpepbfpebmmaaGreatMMatMoO
import Derived.Test.YtbfpepbfpebmmaaGreatMMatMpK
set_option linter.all false
namespace Go.Sim
section
variable {α:Type} [Fl α] [DecidableEq α]
def vwt:Nat→Vc α→Nat
  | 0,_=>0
  | n+1,v=>vwt n v+if v n=Fl.zero then 0 else 1
def VLst (S:Vc α→Prop) (n d:Nat):Prop:=0<d∧(∃ v,S v∧vwt n v=d)∧∀ v,S v→vwt n v≠0→d≤vwt n v
def Lst (A:List (List α)) (n d:Nat):Prop:=(A=[]∧d=0)∨VLst (LSpan A) n d
section
variable {n d:Nat} {A:List (List α)} (hA:LRed n A) (h0:0<A.length) (hd:Lst A n d)
include hA h0 hd
end
section
variable {β:Type} [Fl β] [DecidableEq β] {b0 b1:α→β} {two:α} {lift:β→α} (B:Bit2 b0 b1 two lift) {m:Nat} {g h:List β}
include B
end
end
end Go.Sim

namespace Go.Sim
open Go Go.Proofs
def RetF (er:Nat) (H:AH) (r:Value) (H':AH):Prop:=r=gotv 0 0 (.slice none 0 0) er∧Pre H H'
section
variable {α:Type} [Fl α] [DecidableEq α] {cd:α→Nat} {p e b c q:Nat} {blk:AB} {H:AH}
theorem qmm {H0 H1:AH} {i q n L:Nat} {v:Value} {er:Nat} {M:List (List Value)} (g:H1[i]? = some (.cells [nv 0,nv 0,.slice none 0 0,nv 0] 37 none false)) (hv:Lw.RowLo L H1 v M) (hL:i<L) (h0:H0.length≤i) (hp:Pre H0 H1) :
    ∃ H2,stB 4 H1 (some (.cells [nv 0,nv 0,.slice none 0 0,nv 0] 37 none false)) i 0 (gotv q n v er)=some (undef,H2)∧H2[i]? = some (.cells [nv q,nv n,v,nv er] 37 none false)∧Pre H0 H2∧Lw.RowLo L H2 v M:=
  ⟨_,qcj (x:=nv q) (y:=nv n) (z:=v) (u:=nv er) rfl rfl hv.one rfl,List.getElem?_set_self (qbx g),hp.set h0 _,hv.setLow hL⟩
theorem qhb {M:List (List α)} {k:Nat} (hk:k<M.length):evr cd (M.take (k+1))=evr cd (M.take k)++[evs cd (M.getD k [])]:=by
  show List.map _ _=List.map _ _++_
  rw [List.take_succ_eq_append_getElem hk,List.map_append,qcb hk];rfl
theorem qf2 {T:List α→List α} {G:List (List α)} {k:Nat} (hk:k<G.length):(G.map T).getD k []=T (G.getD k []):=by
  rw [qcb (by rw [List.length_map];exact hk),List.getElem_map,qcb hk]
theorem extIn_c (Q:FQ α cd p e q blk) {v:Value} {n:Nat} {G:List (List α)} (hv:RowR H v (evr cd G)) (hl:∀ x∈G,x.length=n) (hG:G.length≤400) (hn:n<24) (hn0:0<n) :
    FN Tryz.prog 17 [codv q n v] H (RetG cd q (n+1) (qbk (G.map (lext n))) H):=by
  refine g17_of ?_
  unfold g17
  have ho:=hv.one'
  have h24:¬n≥24:=by omega
  simp (disch:=omega) only [zA,zB,zC,zD,zF,zG,zH,↓reduceIte,h24]
  obtain⟨HX,hHX⟩:∃ HX,HX=H++[.cells [nv q,nv n,v] 29 none false,.cells [nv 0,nv 0,.slice none 0 0,nv 0] 37 none false]:=⟨_,rfl⟩
  have hX:Pre H HX:=by rw [hHX];exact Pre.new _ _
  have g0:HX[H.length]? = some (.cells [nv q,nv n,v] 29 none false):=by rw [hHX];simp
  have g1:HX[H.length+1]? = some (.cells [nv 0,nv 0,.slice none 0 0,nv 0] 37 none false):=by rw [hHX];simp
  have hXl:HX.length=H.length+2:=by rw [hHX];simp
  have e0:H++[.cells [nv q,nv n,v] 29 none false,.cells [nv 0,nv 0,.slice none 0 0,nv 0] 37 none false,.cells [] 31 none false]=HX++[.cells [] 31 none false]:=by rw [hHX];simp
  rw [e0]
  clear hHX e0
  refine loopV2.nat G.length (fun k out i H'=>i=nv k∧Pre HX H'∧AccR HX H' out (evr cd ((G.map (lext n)).take k)) 31) ⟨rfl,Pre.new _ _,?_⟩ ?_ ?_
  · have:=AccR.new (H0:=HX) (H:=HX) (Nat.le_refl _) (e:=31) (Y:=[])
    rw [hXl] at this
    exact this
  · rintro k out i H4 hk ⟨rfl,hp4,ho4⟩ J hJ
    have g4:=hp4.get g0
    have hv4:=hv.pre (hX.trans hp4)
    obtain⟨vs,hvs,hvl,hvr⟩:=hv4.open
    obtain⟨vl,vi,vd,_⟩:=hvs.allV
    rw [hvl] at vl
    have hk1:k<vs.length:=by omega
    simp (disch:=omega) only [zA,zB,zC,zD,zF,zG,zH,↓reduceIte,g4,vl,hk,hk1,vi,vd]
    refine FZ.mono (over_c Q) ?_
    rintro _ H6 ⟨hp6,b6,rfl,hb6⟩
    have g6:=hp6.get g4
    obtain⟨_,_,vd6,_⟩:=(hvs.pre hp6).allV
    simp (disch:=omega) only [zA,zB,zC,zD,zF,zG,zH,↓reduceIte,g6,vd6,hk1]
    refine FZ.mono (longer_c (Q.ok b6) hb6 ((hvr k hk).pre hp6) (hl _ (getD_mem hk)) (by omega) hn0) ?_
    rintro r7 H7 ⟨hp7,hr7⟩
    have hp47:=hp6.trans hp7
    have hkl:k<(G.map (lext n)).length:=by rw [List.length_map];exact hk
    obtain⟨out',H9,e1,ho',hp',_⟩:=(ho4.pre hp47).app1 (by_:=24) (hp4.trans hp47).len hr7 (qb3 _) (by simp;omega) (by simp;omega) (e2:=31)
    simp (disch:=(first|omega|(simp only [qbj]<;>omega)|(simp only [qbg];done)|rfl)) only [zA,zB,zC,zD,zF,zG,zH,Nat.reduceEqDiff,Nat.reduceLT,Nat.reduceLeDiff,↓reduceIte,hr7.fill,e1]
    refine hJ _ _ _ ⟨rfl,hp' (hp4.trans hp47),?_⟩
    rw [qhb hkl,qf2 hk]
    exact ho'
  · rintro out i H4 ⟨rfl,hp4,ho4⟩ J
    have g4:=hp4.get g0
    have hv4:=hv.pre (hX.trans hp4)
    have vl:=qhj hv4
    simp (disch:=omega) only [zA,zB,zC,zD,zF,zG,zH,↓reduceIte,g4,vl]
    rw [List.take_of_length_le (by rw [List.length_map];exact Nat.le_refl _)] at ho4
    refine FZ.mono (qkz Q ho4.rowR ((LM.ext n).width hl) (by rw [List.length_map];exact hG) (by omega) (by omega)) ?_
    rintro _ H10 ⟨hp10,w,rfl,hw⟩
    obtain⟨H11,st,g11,hp11,hw11⟩:=qmm (H0:=H) (H1:=H10) (i:=H.length+1) (q:=q) (n:=n+1) (er:=0) ((hp4.trans hp10).get g1) hw (by have:=hp4.len;omega) (by omega) (hX.trans (hp4.trans hp10))
    have g10:=(hp4.trans hp10).get g1
    simp (disch:=omega) only [zA,zB,zC,zD,zF,zG,zH,↓reduceIte,g10,st,g11]
    exact⟨hp11,w,rfl,hw11.mono (by have:=(hX.trans hp4).len;omega)⟩
theorem punIn_c (Q:FQ α cd p e q blk) {v:Value} {n i:Nat} {G:List (List α)} (hv:RowR H v (evr cd G)) (hl:∀ x∈G,x.length=n) (hG:G.length≤400) (hn:n≤1000) (hn2:2≤n) (hi:i<n) :
    FN Tryz.prog 19 [codv q n v,nv i] H (RetG cd q (n-1) (qbk (G.map (pick (n-1) (qc0 i)))) H):=by
  refine g19_of ?_
  unfold g19
  have ho:=hv.one'
  have h1:¬i<0:=by omega
  have h2:¬i≥n:=by omega
  have h3:¬n<2:=by omega
  simp (disch:=omega) only [zA,zB,zC,zD,zF,zG,zH,↓reduceIte,h1,h2,h3]
  obtain⟨HX,hHX⟩:∃ HX,HX=H++[.cells [nv q,nv n,v] 29 none false,.cells [nv 0,nv 0,.slice none 0 0,nv 0] 37 none false]:=⟨_,rfl⟩
  have hX:Pre H HX:=by rw [hHX];exact Pre.new _ _
  have g0:HX[H.length]? = some (.cells [nv q,nv n,v] 29 none false):=by rw [hHX];simp
  have g1:HX[H.length+1]? = some (.cells [nv 0,nv 0,.slice none 0 0,nv 0] 37 none false):=by rw [hHX];simp
  have hXl:HX.length=H.length+2:=by rw [hHX];simp
  have e0:H++[.cells [nv q,nv n,v] 29 none false,.cells [nv 0,nv 0,.slice none 0 0,nv 0] 37 none false,.cells [] 31 none false]=HX++[.cells [] 31 none false]:=by rw [hHX];simp
  rw [e0]
  clear hHX e0
  refine loopV2.nat G.length (fun k out j H'=>j=nv k∧Pre HX H'∧AccR HX H' out (evr cd ((G.map (pick (n-1) (qc0 i))).take k)) 31) ⟨rfl,Pre.new _ _,?_⟩ ?_ ?_
  · have:=AccR.new (H0:=HX) (H:=HX) (Nat.le_refl _) (e:=31) (Y:=[])
    rw [hXl] at this
    exact this
  · rintro k out j H4 hk ⟨rfl,hp4,ho4⟩ J hJ
    have g4:=hp4.get g0
    have hv4:=hv.pre (hX.trans hp4)
    obtain⟨vs,hvs,hvl,hvr⟩:=hv4.open
    obtain⟨vl,vi,vd,_⟩:=hvs.allV
    rw [hvl] at vl
    have hk1:k<vs.length:=by omega
    simp (disch:=omega) only [zA,zB,zC,zD,zF,zG,zH,↓reduceIte,g4,vl,hk,hk1,vi,vd]
    refine FZ.mono (without9_c (hvr k hk) (hl _ (getD_mem hk)) hn hi hn2) ?_
    rintro r7 H7 ⟨hp47,hr7⟩
    have hkl:k<(G.map (pick (n-1) (qc0 i))).length:=by rw [List.length_map];exact hk
    obtain⟨out',H9,e1,ho',hp',_⟩:=(ho4.pre hp47).app1 (by_:=24) (hp4.trans hp47).len hr7 (qb3 _) (by simp;omega) (by simp;omega) (e2:=31)
    simp (disch:=(first|omega|(simp only [qbj]<;>omega)|(simp only [qbg];done)|rfl)) only [zA,zB,zC,zD,zF,zG,zH,Nat.reduceEqDiff,Nat.reduceLT,Nat.reduceLeDiff,↓reduceIte,hr7.fill,e1]
    refine hJ _ _ _ ⟨rfl,hp' (hp4.trans hp47),?_⟩
    rw [qhb hkl,qf2 hk]
    exact ho'
  · rintro out j H4 ⟨rfl,hp4,ho4⟩ J
    have g4:=hp4.get g0
    have hv4:=hv.pre (hX.trans hp4)
    have vl:=qhj hv4
    have h1n:1≤n:=by omega
    simp (disch:=omega) only [zA,zB,zC,zD,zF,zG,zH,↓reduceIte,g4,vl,h1n]
    rw [List.take_of_length_le (by rw [List.length_map];exact Nat.le_refl _)] at ho4
    refine FZ.mono (qkz Q ho4.rowR ((LM.pick n (n-1) (qc0 i)).width hl) (by rw [List.length_map];exact hG) (by omega) (by omega)) ?_
    rintro _ H10 ⟨hp10,w,rfl,hw⟩
    obtain⟨H11,st,g11,hp11,hw11⟩:=qmm (H0:=H) (H1:=H10) (i:=H.length+1) (q:=q) (n:=n-1) (er:=0) ((hp4.trans hp10).get g1) hw (by have:=hp4.len;omega) (by omega) (hX.trans (hp4.trans hp10))
    have g10:=(hp4.trans hp10).get g1
    simp (disch:=omega) only [zA,zB,zC,zD,zF,zG,zH,↓reduceIte,g10,st,g11]
    exact⟨hp11,w,rfl,hw11.mono (by have:=(hX.trans hp4).len;omega)⟩
theorem qgc {H0:AH} {k er:Nat} (hk:k=H0.length):stB 4 (H0++[.cells [nv 0,nv 0,.slice none 0 0,nv 0] 37 none false]) (some (.cells [nv 0,nv 0,.slice none 0 0,nv 0] 37 none false)) k 0 (gotv 0 0 (.slice none 0 0) er)=some (undef,H0++[.cells [nv 0,nv 0,.slice none 0 0,nv er] 37 none false]):=by
  subst hk
  have:=qcj (H:=H0++[.cells [nv 0,nv 0,.slice none 0 0,nv 0] 37 none false]) (bl:=H0.length) (x:=nv 0) (y:=nv 0) (z:=.slice none 0 0) (u:=nv er) (c0:=nv 0) (c1:=nv 0) (c2:=.slice none 0 0) (c3:=nv 0) (e:=37) (op:=none) rfl rfl rfl rfl
  rwa [qb2] at this
theorem punIn_e {v:Value} {n i:Nat} (ho:one v=true) (h:n≤i∨n<2) :
    FN Tryz.prog 19 [codv q n v,nv i] H (RetF 1 H):=by
  refine g19_of ?_
  unfold g19
  have s:=qgc (H0:=H++[.cells [nv q,nv n,v] 29 none false]) (k:=H.length+1) (er:=1) (by simp)
  simp only [List.append_assoc,List.cons_append,List.nil_append] at s
  have h1:¬i<0:=by omega
  have hX:=Pre.new H [.cells [nv q,nv n,v] 29 none false,.cells [nv 0,nv 0,.slice none 0 0,nv 1] 37 none false]
  by_cases h2:i≥n
  · simp (disch:=(first|omega|(simp only [qbj]<;>omega)|(simp only [qbg];done)|rfl)) only [zA,zB,zC,zD,zF,zG,zH,Nat.reduceEqDiff,Nat.reduceLT,Nat.reduceLeDiff,↓reduceIte,h1,h2,s]
    exact⟨rfl,hX⟩
  · have h3:n<2:=by omega
    simp (disch:=(first|omega|(simp only [qbj]<;>omega)|(simp only [qbg];done)|rfl)) only [zA,zB,zC,zD,zF,zG,zH,Nat.reduceEqDiff,Nat.reduceLT,Nat.reduceLeDiff,↓reduceIte,h1,h2,h3,s]
    exact⟨rfl,hX⟩
theorem punIn_m {v:Value} {n:Nat} (ho:one v=true) :
    FN Tryz.prog 19 [codv q n v,.int .i64 (-1)] H (RetF 1 H):=by
  refine g19_of ?_
  unfold g19
  have s:=qgc (H0:=H++[.cells [nv q,nv n,v] 29 none false]) (k:=H.length+1) (er:=1) (by simp)
  simp only [List.append_assoc,List.cons_append,List.nil_append] at s
  have h1:xbin .lss 0 (.int .i64 (-1)) (nv 0)=some (.bool true):=rfl
  have hX:=Pre.new H [.cells [nv q,nv n,v] 29 none false,.cells [nv 0,nv 0,.slice none 0 0,nv 1] 37 none false]
  simp (disch:=(first|omega|(simp only [qbj]<;>omega)|(simp only [qbg];done)|rfl)) only [zA,zB,zC,zD,zF,zG,zH,Nat.reduceEqDiff,Nat.reduceLT,Nat.reduceLeDiff,↓reduceIte,h1,s]
  exact⟨rfl,hX⟩
theorem sumIn_c (Q:FQ α cd p e q blk) {v w:Value} {n m:Nat} {A B:List (List α)} (hv:RowR H v (evr cd A)) (hw:RowR H w (evr cd B)) (hA:∀ x∈A,x.length=n) (hB:∀ x∈B,x.length=m) (hlA:A.length≤200) (hlB:B.length≤200) (hn0:0<n) (hm0:0<m) (hnm:n+m≤24) :
    FN Tryz.prog 23 [codv q n v,codv q m w] H (RetG cd q (n+m) (qbk (lsum n m A B)) H):=by
  refine g23_of ?_
  unfold g23
  have ho:=hv.one'
  have ho2:=hw.one'
  have h24:¬24<n+m:=by omega
  have F0:=Q.ok 0
  simp (disch:=omega) only [zA,zB,zC,zD,zF,zG,zH,↓reduceIte,ho,ho2,h24]
  obtain⟨HX,hHX⟩:∃ HX,HX=H++[.cells [nv q,nv n,v] 29 none false,.cells [nv q,nv m,w] 29 none false,.cells [nv 0,nv 0,.slice none 0 0,nv 0] 37 none false]:=⟨_,rfl⟩
  have hX:Pre H HX:=by rw [hHX];exact Pre.new _ _
  have g0:HX[H.length]? = some (.cells [nv q,nv n,v] 29 none false):=by rw [hHX];simp
  have g1:HX[H.length+1]? = some (.cells [nv q,nv m,w] 29 none false):=by rw [hHX];simp
  have g2:HX[H.length+2]? = some (.cells [nv 0,nv 0,.slice none 0 0,nv 0] 37 none false):=by rw [hHX];simp
  have hXl:HX.length=H.length+3:=by rw [hHX];simp
  have e0:H++[.cells [nv q,nv n,v] 29 none false,.cells [nv q,nv m,w] 29 none false,.cells [nv 0,nv 0,.slice none 0 0,nv 0] 37 none false,.cells [] 31 none false]=HX++[.cells [] 31 none false]:=by rw [hHX];simp
  rw [e0]
  clear hHX e0
  obtain⟨T1,hT1⟩:∃ T:List α→List α,T=pick (n+m) fun j=>j:=⟨_,rfl⟩
  obtain⟨T2,hT2⟩:∃ T:List α→List α,T=pick (n+m) fun j=>if j<n then m else j-n:=⟨_,rfl⟩
  refine loopV2.nat A.length (fun k out i H'=>i=nv k∧Pre HX H'∧AccR HX H' out (evr cd ((A.map T1).take k)) 31) ⟨rfl,Pre.new _ _,?_⟩ ?_ ?_
  · have:=AccR.new (H0:=HX) (H:=HX) (Nat.le_refl _) (e:=31) (Y:=[])
    rw [hXl] at this
    exact this
  · rintro k out i H4 hk ⟨rfl,hp4,ho4⟩ J hJ
    have g04:=hp4.get g0
    have g14:=hp4.get g1
    have hv4:=hv.pre (hX.trans hp4)
    obtain⟨vs,hvs,hvl,hvr⟩:=hv4.open
    obtain⟨vl,vi,vd,_⟩:=hvs.allV
    rw [hvl] at vl
    have hk1:k<vs.length:=by omega
    have hxl:=hA _ (getD_mem (d:=[]) hk)
    have hcl:(evs cd (A.getD k [])).length=n:=by rw [List.length_map,hxl]
    have hp5:=Pre.new H4 [.cells [] 3 none false]
    obtain⟨_,_,vd5,_⟩:=(hvs.pre hp5).allV
    have g05:=hp5.get g04
    have g15:=hp5.get g14
    obtain⟨w1,H9,e1,ha,hp9,_⟩:=Acc.appR (H0:=H4) (H:=H4++[.cells [] 3 none false]) (by_:=8) (by simp) (Own.new (n:=0) (Nat.le_refl _) (cs:=[]) rfl (Y:=[])).acc (qht ((hvr k hk).pre hp5) hxl hn0) (by simp [one]) (by rw [hcl];simp;omega) (by rw [hcl];simp;omega)
    rw [List.nil_append] at ha
    have hp9':=hp9 hp5
    have g19:=hp9'.get g14
    simp (disch:=omega) only [zA,zB,zC,zD,zF,zG,zH,↓reduceIte,g04,vl,hk,hk1,vi,vd,g05,vd5,g15,e1,g19]
    refine FZ.use (qkj (by omega)) ?_
    have hp10:=Pre.new H9 [.cells ((List.replicate m 0).map nv) 3 none false]
    obtain⟨w2,H11,e2,ha2,hp11,_⟩:=Acc.appR (H0:=H4) (by_:=8) (hp9'.trans hp10).len (ha.pre hp10) (qjf (n:=m) (e:=3) (op:=none) (r:=false) (H:=H9++[.cells ((List.replicate m 0).map nv) 3 none false]) (bl:=H9.length) (by simp)) (by simp [one]) (by rw [hcl];simp;omega) (by rw [hcl];simp;omega)
    have hp11':=hp11 (hp9'.trans hp10)
    have hr11:Row H11 w2 (evs cd (T1 (A.getD k []))):=by
      have:=ha2.row
      rw [qf4 F0] at this
      rw [hT1,pick_left hxl]
      simpa using this
    have hkl:k<(A.map T1).length:=by rw [List.length_map];exact hk
    obtain⟨out',H13,e3,ho',hp',_⟩:=(ho4.pre hp11').app1 (by_:=24) (hp4.trans hp11').len hr11 (qb3 _) (by simp;omega) (by simp;omega) (e2:=31)
    simp (disch:=(first|omega|(simp only [qbj]<;>omega)|(simp only [qbg];done)|rfl)) only [zA,zB,zC,zD,zF,zG,zH,Nat.reduceEqDiff,Nat.reduceLT,Nat.reduceLeDiff,↓reduceIte,e2,hr11.fill,e3]
    refine hJ _ _ _ ⟨rfl,hp' (hp4.trans hp11'),?_⟩
    rw [qhb hkl,qf2 hk]
    exact ho'
  · rintro out i H4 ⟨rfl,hp4,ho4⟩ J
    have g04:=hp4.get g0
    have vl:=qhj (hv.pre (hX.trans hp4))
    simp (disch:=omega) only [zA,zB,zC,zD,zF,zG,zH,↓reduceIte,g04,vl]
    rw [List.take_of_length_le (by rw [List.length_map];exact Nat.le_refl _)] at ho4
    refine loopV2.nat B.length (fun k out i H'=>i=nv k∧Pre HX H'∧AccR HX H' out (evr cd (A.map T1++(B.map T2).take k)) 31) ⟨rfl,hp4,by simpa using ho4⟩ ?_ ?_
    · rintro k out i H4 hk ⟨rfl,hp4,ho4⟩ J hJ
      have g04:=hp4.get g0
      have g14:=hp4.get g1
      have hw4:=hw.pre (hX.trans hp4)
      obtain⟨vs,hvs,hvl,hvr⟩:=hw4.open
      obtain⟨vl,vi,vd,_⟩:=hvs.allV
      rw [hvl] at vl
      have hk1:k<vs.length:=by omega
      have hxl:=hB _ (getD_mem (d:=[]) hk)
      have hcl:(evs cd (B.getD k [])).length=m:=by rw [List.length_map,hxl]
      simp (disch:=omega) only [zA,zB,zC,zD,zF,zG,zH,↓reduceIte,g04,g14,vl,hk,hk1,vi,vd]
      refine FZ.use (qkj (by omega)) ?_
      have hp5:=Pre.new H4 [.cells ((List.replicate n 0).map nv) 3 none false]
      obtain⟨_,_,vd5,_⟩:=(hvs.pre hp5).allV
      have g15:=hp5.get g14
      obtain⟨w2,H11,e2,ha2,hp11,_⟩:=Acc.appR (H0:=H4) (H:=H4++[.cells ((List.replicate n 0).map nv) 3 none false]) (by_:=8) (by simp) (Own.new (n:=n) (Nat.le_refl _) (cs:=(List.replicate n 0).map nv) (by simp) (Y:=[])).acc (qht ((hvr k hk).pre hp5) hxl hm0) (by simp [one]) (by rw [hcl];simp;omega) (by rw [hcl];simp;omega)
      have hp11':=hp11 hp5
      have hr11:Row H11 w2 (evs cd (T2 (B.getD k []))):=by
        have:=ha2.row
        rw [qf4 F0] at this
        rw [hT2,qjg hxl]
        simpa using this
      have hkl:k<(B.map T2).length:=by rw [List.length_map];exact hk
      obtain⟨out',H13,e3,ho',hp',_⟩:=(ho4.pre hp11').app1 (by_:=24) (hp4.trans hp11').len hr11 (qb3 _) (by simp;omega) (by simp;omega) (e2:=31)
      simp (disch:=(first|omega|(simp only [qbj]<;>omega)|(simp only [qbg];done)|rfl)) only [zA,zB,zC,zD,zF,zG,zH,Nat.reduceEqDiff,Nat.reduceLT,Nat.reduceLeDiff,↓reduceIte,g15,vd5,hk1,e2,hr11.fill,e3]
      refine hJ _ _ _ ⟨rfl,hp' (hp4.trans hp11'),?_⟩
      have e4:evr cd (A.map T1++(B.map T2).take (k+1))=evr cd (A.map T1++(B.map T2).take k)++[evs cd (T2 (B.getD k []))]:=by
        rw [←qf2 (T:=T2) hk]
        have:=qhb (cd:=cd) hkl
        simp only [evr,List.map_append] at this ⊢
        rw [this,List.append_assoc]
      rw [e4]
      exact ho'
    · rintro out i H4 ⟨rfl,hp4,ho4⟩ J
      have g04:=hp4.get g0
      have g14:=hp4.get g1
      have vl:=qhj (hw.pre (hX.trans hp4))
      simp (disch:=omega) only [zA,zB,zC,zD,zF,zG,zH,↓reduceIte,g04,g14,vl]
      rw [List.take_of_length_le (by rw [List.length_map];exact Nat.le_refl _)] at ho4
      have eM:A.map T1++B.map T2=lsum n m A B:=by rw [hT1,hT2];rfl
      rw [eM] at ho4
      refine FZ.mono (qkz Q ho4.rowR (by rw [←eM,hT1,hT2];intro x hx;rcases List.mem_append.1 hx with h|h<;>(obtain⟨y,_,rfl⟩:=List.mem_map.1 h;exact qck _ _ _)) (by rw [←eM,List.length_append,List.length_map,List.length_map];omega) (by omega) (by omega)) ?_
      rintro _ H10 ⟨hp10,w,rfl,hw⟩
      obtain⟨H11,st,g11,hp11,hw11⟩:=qmm (H0:=H) (H1:=H10) (i:=H.length+2) (q:=q) (n:=n+m) (er:=0) ((hp4.trans hp10).get g2) hw (by have:=hp4.len;omega) (by omega) (hX.trans (hp4.trans hp10))
      have g10:=(hp4.trans hp10).get g2
      simp (disch:=omega) only [zA,zB,zC,zD,zF,zG,zH,↓reduceIte,g10,st,g11]
      exact⟨hp11,w,rfl,hw11.mono (by have:=(hX.trans hp4).len;omega)⟩
theorem dblIn_c (Q:FQ α cd p e q blk) {v w:Value} {n:Nat} {A B:List (List α)} (hv:RowR H v (evr cd A)) (hw:RowR H w (evr cd B)) (hA:∀ x∈A,x.length=n) (hB:∀ x∈B,x.length=n) (hlA:A.length≤200) (hlB:B.length≤200) (hn0:0<n) (hnm:n+n≤24) :
    FN Tryz.prog 25 [codv q n v,codv q n w] H (RetG cd q (n+n) (qbk (ldbl n A B)) H):=by
  refine g25_of ?_
  unfold g25
  have ho:=hv.one'
  have ho2:=hw.one'
  have h24:¬24<n+n:=by omega
  have h2n:xbin .mul 0 (nv 2) (nv n)=some (nv (n+n)):=by rw [←Nat.two_mul];exact qks (by omega)
  have F0:=Q.ok 0
  simp (disch:=omega) only [zA,zB,zC,zD,zF,zG,zH,↓reduceIte,ho,ho2,h2n,h24]
  obtain⟨HX,hHX⟩:∃ HX,HX=H++[.cells [nv q,nv n,v] 29 none false,.cells [nv q,nv n,w] 29 none false,.cells [nv 0,nv 0,.slice none 0 0,nv 0] 37 none false]:=⟨_,rfl⟩
  have hX:Pre H HX:=by rw [hHX];exact Pre.new _ _
  have g0:HX[H.length]? = some (.cells [nv q,nv n,v] 29 none false):=by rw [hHX];simp
  have g1:HX[H.length+1]? = some (.cells [nv q,nv n,w] 29 none false):=by rw [hHX];simp
  have g2:HX[H.length+2]? = some (.cells [nv 0,nv 0,.slice none 0 0,nv 0] 37 none false):=by rw [hHX];simp
  have hXl:HX.length=H.length+3:=by rw [hHX];simp
  have e0:H++[.cells [nv q,nv n,v] 29 none false,.cells [nv q,nv n,w] 29 none false,.cells [nv 0,nv 0,.slice none 0 0,nv 0] 37 none false,.cells [] 31 none false]=HX++[.cells [] 31 none false]:=by rw [hHX];simp
  rw [e0]
  clear hHX e0
  obtain⟨T1,hT1⟩:∃ T:List α→List α,T=pick (n+n) fun j=>if j<n then j else j-n:=⟨_,rfl⟩
  obtain⟨T2,hT2⟩:∃ T:List α→List α,T=pick (n+n) fun j=>if j<n then n else j-n:=⟨_,rfl⟩
  refine loopV2.nat A.length (fun k out i H'=>i=nv k∧Pre HX H'∧AccR HX H' out (evr cd ((A.map T1).take k)) 31) ⟨rfl,Pre.new _ _,?_⟩ ?_ ?_
  · have:=AccR.new (H0:=HX) (H:=HX) (Nat.le_refl _) (e:=31) (Y:=[])
    rw [hXl] at this
    exact this
  · rintro k out i H4 hk ⟨rfl,hp4,ho4⟩ J hJ
    have g04:=hp4.get g0
    have g14:=hp4.get g1
    have hv4:=hv.pre (hX.trans hp4)
    obtain⟨vs,hvs,hvl,hvr⟩:=hv4.open
    obtain⟨vl,vi,vd,_⟩:=hvs.allV
    rw [hvl] at vl
    have hk1:k<vs.length:=by omega
    have hxl:=hA _ (getD_mem (d:=[]) hk)
    have hcl:(evs cd (A.getD k [])).length=n:=by rw [List.length_map,hxl]
    have hp5:=Pre.new H4 [.cells [] 3 none false]
    obtain⟨_,_,vd5,_⟩:=(hvs.pre hp5).allV
    have g05:=hp5.get g04
    obtain⟨w1,H9,e1,ha,hp9,_⟩:=Acc.appR (H0:=H4) (H:=H4++[.cells [] 3 none false]) (by_:=8) (by simp) (Own.new (n:=0) (Nat.le_refl _) (cs:=[]) rfl (Y:=[])).acc (qht ((hvr k hk).pre hp5) hxl hn0) (by simp [one]) (by rw [hcl];simp;omega) (by rw [hcl];simp;omega)
    rw [List.nil_append] at ha
    have hp9':=hp9 hp5
    obtain⟨_,_,vd9,_⟩:=(hvs.pre hp9').allV
    have g09:=hp9'.get g04
    simp (disch:=omega) only [zA,zB,zC,zD,zF,zG,zH,↓reduceIte,g04,vl,hk,hk1,vi,vd,g05,vd5,e1,g09,vd9]
    obtain⟨w2,H11,e2,ha2,hp11,_⟩:=Acc.appR (H0:=H4) (by_:=8) hp9'.len ha (qht ((hvr k hk).pre hp9') hxl hn0) (by simp [one]) (by rw [hcl];omega) (by rw [hcl];omega)
    have hp11':=hp11 hp9'
    have hr11:Row H11 w2 (evs cd (T1 (A.getD k []))):=by
      have:=ha2.row
      rw [hT1,pick_dbl hxl]
      simpa using this
    have hkl:k<(A.map T1).length:=by rw [List.length_map];exact hk
    obtain⟨out',H13,e3,ho',hp',_⟩:=(ho4.pre hp11').app1 (by_:=24) (hp4.trans hp11').len hr11 (qb3 _) (by simp;omega) (by simp;omega) (e2:=31)
    simp (disch:=(first|omega|(simp only [qbj]<;>omega)|(simp only [qbg];done)|rfl)) only [zA,zB,zC,zD,zF,zG,zH,Nat.reduceEqDiff,Nat.reduceLT,Nat.reduceLeDiff,↓reduceIte,e2,hr11.fill,e3]
    refine hJ _ _ _ ⟨rfl,hp' (hp4.trans hp11'),?_⟩
    rw [qhb hkl,qf2 hk]
    exact ho'
  · rintro out i H4 ⟨rfl,hp4,ho4⟩ J
    have g04:=hp4.get g0
    have vl:=qhj (hv.pre (hX.trans hp4))
    simp (disch:=omega) only [zA,zB,zC,zD,zF,zG,zH,↓reduceIte,g04,vl]
    rw [List.take_of_length_le (by rw [List.length_map];exact Nat.le_refl _)] at ho4
    refine loopV2.nat B.length (fun k out i H'=>i=nv k∧Pre HX H'∧AccR HX H' out (evr cd (A.map T1++(B.map T2).take k)) 31) ⟨rfl,hp4,by simpa using ho4⟩ ?_ ?_
    · rintro k out i H4 hk ⟨rfl,hp4,ho4⟩ J hJ
      have g04:=hp4.get g0
      have g14:=hp4.get g1
      have hw4:=hw.pre (hX.trans hp4)
      obtain⟨vs,hvs,hvl,hvr⟩:=hw4.open
      obtain⟨vl,vi,vd,_⟩:=hvs.allV
      rw [hvl] at vl
      have hk1:k<vs.length:=by omega
      have hxl:=hB _ (getD_mem (d:=[]) hk)
      have hcl:(evs cd (B.getD k [])).length=n:=by rw [List.length_map,hxl]
      simp (disch:=omega) only [zA,zB,zC,zD,zF,zG,zH,↓reduceIte,g04,g14,vl,hk,hk1,vi,vd]
      refine FZ.use (qkj (by omega)) ?_
      have hp5:=Pre.new H4 [.cells ((List.replicate n 0).map nv) 3 none false]
      obtain⟨_,_,vd5,_⟩:=(hvs.pre hp5).allV
      have g15:=hp5.get g14
      obtain⟨w2,H11,e2,ha2,hp11,_⟩:=Acc.appR (H0:=H4) (H:=H4++[.cells ((List.replicate n 0).map nv) 3 none false]) (by_:=8) (by simp) (Own.new (n:=n) (Nat.le_refl _) (cs:=(List.replicate n 0).map nv) (by simp) (Y:=[])).acc (qht ((hvr k hk).pre hp5) hxl hn0) (by simp [one]) (by rw [hcl];simp;omega) (by rw [hcl];simp;omega)
      have hp11':=hp11 hp5
      have hr11:Row H11 w2 (evs cd (T2 (B.getD k []))):=by
        have:=ha2.row
        rw [qf4 F0] at this
        rw [hT2,qjg hxl]
        simpa using this
      have hkl:k<(B.map T2).length:=by rw [List.length_map];exact hk
      obtain⟨out',H13,e3,ho',hp',_⟩:=(ho4.pre hp11').app1 (by_:=24) (hp4.trans hp11').len hr11 (qb3 _) (by simp;omega) (by simp;omega) (e2:=31)
      simp (disch:=(first|omega|(simp only [qbj]<;>omega)|(simp only [qbg];done)|rfl)) only [zA,zB,zC,zD,zF,zG,zH,Nat.reduceEqDiff,Nat.reduceLT,Nat.reduceLeDiff,↓reduceIte,g15,vd5,hk1,e2,hr11.fill,e3]
      refine hJ _ _ _ ⟨rfl,hp' (hp4.trans hp11'),?_⟩
      have e4:evr cd (A.map T1++(B.map T2).take (k+1))=evr cd (A.map T1++(B.map T2).take k)++[evs cd (T2 (B.getD k []))]:=by
        rw [←qf2 (T:=T2) hk]
        have:=qhb (cd:=cd) hkl
        simp only [evr,List.map_append] at this ⊢
        rw [this,List.append_assoc]
      rw [e4]
      exact ho'
    · rintro out i H4 ⟨rfl,hp4,ho4⟩ J
      have g04:=hp4.get g0
      have g14:=hp4.get g1
      have vl:=qhj (hw.pre (hX.trans hp4))
      simp (disch:=omega) only [zA,zB,zC,zD,zF,zG,zH,↓reduceIte,g04,g14,vl,h2n]
      rw [List.take_of_length_le (by rw [List.length_map];exact Nat.le_refl _)] at ho4
      have eM:A.map T1++B.map T2=ldbl n A B:=by rw [hT1,hT2];rfl
      rw [eM] at ho4
      refine FZ.mono (qkz Q ho4.rowR (by rw [←eM,hT1,hT2];intro x hx;rcases List.mem_append.1 hx with h|h<;>(obtain⟨y,_,rfl⟩:=List.mem_map.1 h;exact qck _ _ _)) (by rw [←eM,List.length_append,List.length_map,List.length_map];omega) (by omega) (by omega)) ?_
      rintro _ H10 ⟨hp10,w,rfl,hw⟩
      obtain⟨H11,st,g11,hp11,hw11⟩:=qmm (H0:=H) (H1:=H10) (i:=H.length+2) (q:=q) (n:=n+n) (er:=0) ((hp4.trans hp10).get g2) hw (by have:=hp4.len;omega) (by omega) (hX.trans (hp4.trans hp10))
      have g10:=(hp4.trans hp10).get g2
      simp (disch:=omega) only [zA,zB,zC,zD,zF,zG,zH,↓reduceIte,g10,st,g11]
      exact⟨hp11,w,rfl,hw11.mono (by have:=(hX.trans hp4).len;omega)⟩
end
end Go.Sim

namespace Go.Sim
open Go Go.Proofs
def RetP (er:Nat) (H:AH) (r:Value) (H':AH):Prop:=r=.tuple [codv 0 0 (.slice none 0 0),nv er].toArray∧Pre H H'
theorem refE {H4:AH} {k:Nat} (g:H4[k]? = some (AB.cells [nv 0,nv 0,.slice none 0 0] 29 none false)):∃ H5,stB 3 H4 (some (AB.cells [nv 0,nv 0,.slice none 0 0] 29 none false)) k 0 (codv 0 0 (.slice none 0 0))=some (undef,H5)∧H5[k]? = some (AB.cells [nv 0,nv 0,.slice none 0 0] 29 none false)∧∀ H0:AH,H0.length≤k→Pre H0 H4→Pre H0 H5:=
  ⟨_,qbs (x:=nv 0) (y:=nv 0) (z:=.slice none 0 0) rfl rfl rfl,List.getElem?_set_self (qbx g),fun _ h hp=>hp.set h _⟩
theorem qpm {H3:AH} {k er:Nat} (g:H3[k]? = some (AB.cells [nv 0,nv 0,.slice none 0 0,nv 0] 37 none false)):stB 3 (H3++[AB.cells [nv 0,nv 0,.slice none 0 0] 29 none false]) (some (AB.cells [nv 0,nv 0,.slice none 0 0] 29 none false)) H3.length 0 (codv 0 0 (.slice none 0 0))=some (undef,H3++[AB.cells [nv 0,nv 0,.slice none 0 0] 29 none false])∧(H3++[AB.cells [nv 0,nv 0,.slice none 0 0] 29 none false])[k]? = some (AB.cells [nv 0,nv 0,.slice none 0 0,nv 0] 37 none false) ∧
    ∃ H5,stB 4 (H3++[AB.cells [nv 0,nv 0,.slice none 0 0] 29 none false]) (some (AB.cells [nv 0,nv 0,.slice none 0 0,nv 0] 37 none false)) k 0 (gotv 0 0 (.slice none 0 0) er)=some (undef,H5)∧H5[k]? = some (AB.cells [nv 0,nv 0,.slice none 0 0,nv er] 37 none false)∧∀ H0:AH,H0.length≤k→Pre H0 H3→Pre H0 H5:=by
  have s:=qbs (H:=H3++[AB.cells [nv 0,nv 0,.slice none 0 0] 29 none false]) (bl:=H3.length) (x:=nv 0) (y:=nv 0) (z:=.slice none 0 0) (c0:=nv 0) (c1:=nv 0) (c2:=.slice none 0 0) (e:=29) (op:=none) rfl rfl rfl
  rw [qb2] at s
  have g2:=qdr g [AB.cells [nv 0,nv 0,.slice none 0 0] 29 none false]
  exact⟨s,g2,_,qcj (x:=nv 0) (y:=nv 0) (z:=.slice none 0 0) (u:=nv er) rfl rfl rfl rfl,List.getElem?_set_self (qbx g2),fun _ h hp=>(hp.app _).set h _⟩
section
variable {H:AH} {q q2 n m:Nat} {v w:Value}
theorem sum_b (hv:one v=true) (hw:one w=true) (h:24<n+m) (hs:n+m≤1000) :
    FN Tryz.prog 71 [codv q n v,codv q m w] H (RetP 2 H):=by
  refine g71_of ?_
  unfold g71
  have hp:=Pre.new H [.cells [nv q,nv n,v] 29 none false,.cells [nv q,nv m,w] 29 none false,.cells [nv 0,nv 0,.slice none 0 0] 29 none false]
  simp (disch:=omega) only [zA,zB,zC,zD,zF,zG,zH,↓reduceIte,hv,hw,h]
  refine FZ.mono qb9 ?_
  rintro _ H4 ⟨rfl,hp4⟩
  obtain⟨H5,s5,g5,pr⟩:=refE (k:=H.length+2) (hp4.get (by simp))
  have g4:H4[H.length+2]? = some (AB.cells [nv 0,nv 0,.slice none 0 0] 29 none false):=hp4.get (by simp)
  simp (disch:=omega) only [zA,zB,zC,zD,zF,zG,zH,↓reduceIte,g4,s5,g5]
  exact⟨rfl,pr H (by omega) (hp.trans hp4)⟩
theorem summed_b (hv:one v=true) (hw:one w=true) (h:24<n+m) (hs:n+m≤1000) :
    FN Tryz.prog 22 [codv q n v,codv q m w] H (RetF 2 H):=by
  refine g22_of ?_
  unfold g22
  have hp:=Pre.new H [.cells [nv q,nv n,v] 29 none false,.cells [nv q,nv m,w] 29 none false,.cells [nv 0,nv 0,.slice none 0 0,nv 0] 37 none false]
  simp (disch:=omega) only [zA,zB,zC,zD,zF,zG,zH,↓reduceIte,hv,hw]
  refine FZ.mono (sum_b hv hw h hs) ?_
  rintro _ H3 ⟨rfl,hp3⟩
  obtain⟨s4,g4,H5,s5,g5,pr⟩:=qpm (k:=H.length+2) (er:=2) (hp3.get (by simp))
  have f4:=qb7 (q:=0) (n:=0) (er:=2) (w:=.slice none 0 0) rfl
  simp (disch:=omega) only [zA,zB,zC,zD,zF,zG,zH,↓reduceIte,s4,g4,f4,s5,g5]
  exact⟨rfl,pr H (by omega) (hp.trans hp3)⟩
theorem dbl_b (hv:one v=true) (hw:one w=true) (h:24<2*n) (hs:2*n≤1000) :
    FN Tryz.prog 72 [codv q n v,codv q n w] H (RetP 2 H):=by
  refine g72_of ?_
  unfold g72
  have hp:=Pre.new H [.cells [nv q,nv n,v] 29 none false,.cells [nv q,nv n,w] 29 none false,.cells [nv 0,nv 0,.slice none 0 0] 29 none false]
  simp (disch:=omega) only [zA,zB,zC,zD,zF,zG,zH,↓reduceIte,hv,hw,h]
  refine FZ.mono qb9 ?_
  rintro _ H4 ⟨rfl,hp4⟩
  obtain⟨H5,s5,g5,pr⟩:=refE (k:=H.length+2) (hp4.get (by simp))
  have g4:H4[H.length+2]? = some (AB.cells [nv 0,nv 0,.slice none 0 0] 29 none false):=hp4.get (by simp)
  simp (disch:=omega) only [zA,zB,zC,zD,zF,zG,zH,↓reduceIte,g4,s5,g5]
  exact⟨rfl,pr H (by omega) (hp.trans hp4)⟩
theorem doubled_b (hv:one v=true) (hw:one w=true) (h:24<2*n) (hs:2*n≤1000) :
    FN Tryz.prog 24 [codv q n v,codv q n w] H (RetF 2 H):=by
  refine g24_of ?_
  unfold g24
  have hp:=Pre.new H [.cells [nv q,nv n,v] 29 none false,.cells [nv q,nv n,w] 29 none false,.cells [nv 0,nv 0,.slice none 0 0,nv 0] 37 none false]
  simp (disch:=omega) only [zA,zB,zC,zD,zF,zG,zH,↓reduceIte,hv,hw]
  refine FZ.mono (dbl_b hv hw h hs) ?_
  rintro _ H3 ⟨rfl,hp3⟩
  obtain⟨s4,g4,H5,s5,g5,pr⟩:=qpm (k:=H.length+2) (er:=2) (hp3.get (by simp))
  have f4:=qb7 (q:=0) (n:=0) (er:=2) (w:=.slice none 0 0) rfl
  simp (disch:=omega) only [zA,zB,zC,zD,zF,zG,zH,↓reduceIte,s4,g4,f4,s5,g5]
  exact⟨rfl,pr H (by omega) (hp.trans hp3)⟩
theorem even_e (hv:one v=true) (h:¬q=2) :
    FN Tryz.prog 75 [codv q n v] H (RetP 1 H):=by
  refine g75_of ?_
  unfold g75
  have hp:=Pre.new H [.cells [nv q,nv n,v] 29 none false,.cells [nv 0,nv 0,.slice none 0 0] 29 none false]
  simp (disch:=omega) only [zA,zB,zC,zD,zF,zG,zH,↓reduceIte,hv,h]
  refine FZ.mono qb9 ?_
  rintro _ H4 ⟨rfl,hp4⟩
  obtain⟨H5,s5,g5,pr⟩:=refE (k:=H.length+1) (hp4.get (by simp))
  have g4:H4[H.length+1]? = some (AB.cells [nv 0,nv 0,.slice none 0 0] 29 none false):=hp4.get (by simp)
  simp (disch:=omega) only [zA,zB,zC,zD,zF,zG,zH,↓reduceIte,g4,s5,g5]
  exact⟨rfl,pr H (by omega) (hp.trans hp4)⟩
theorem evened_e (hv:one v=true) (h:¬q=2) :
    FN Tryz.prog 28 [codv q n v] H (RetF 1 H):=by
  refine g28_of ?_
  unfold g28
  have hp:=Pre.new H [.cells [nv q,nv n,v] 29 none false,.cells [nv 0,nv 0,.slice none 0 0,nv 0] 37 none false]
  simp (disch:=omega) only [zA,zB,zC,zD,zF,zG,zH,↓reduceIte,hv]
  refine FZ.mono (even_e hv h) ?_
  rintro _ H3 ⟨rfl,hp3⟩
  obtain⟨s4,g4,H5,s5,g5,pr⟩:=qpm (k:=H.length+1) (er:=1) (hp3.get (by simp))
  have f4:=qb7 (q:=0) (n:=0) (er:=1) (w:=.slice none 0 0) rfl
  simp (disch:=omega) only [zA,zB,zC,zD,zF,zG,zH,↓reduceIte,s4,g4,f4,s5,g5]
  exact⟨rfl,pr H (by omega) (hp.trans hp3)⟩
theorem coord_e {i:Nat} (hv:one v=true) (h:n≤i∨n<2):FN Tryz.prog 117 [codv q n v,nv i] H (fun r H'=>r=.bool false∧Pre H H'):=by
  refine g117_of ?_
  unfold g117
  have hp:=Pre.new H [.cells [nv q,nv n,v] 29 none false]
  have h0:i≥0:=by omega
  by_cases h1:i<n
  · have h2:¬n≥2:=by omega
    simp (disch:=omega) only [zA,zB,zC,zD,zF,zG,zH,↓reduceIte,hv,h0,h1,h2]
    exact hp
  · simp (disch:=omega) only [zA,zB,zC,zD,zF,zG,zH,↓reduceIte,hv,h0,h1]
    exact hp
theorem coord_m (hv:one v=true):FN Tryz.prog 117 [codv q n v,.int .i64 (-1)] H (fun r H'=>r=.bool false∧Pre H H'):=by
  refine g117_of ?_
  unfold g117
  have hp:=Pre.new H [.cells [nv q,nv n,v] 29 none false]
  have h0:xbin .geq 0 (.int .i64 (-1)) (nv 0)=some (.bool false):=rfl
  simp (disch:=omega) only [zA,zB,zC,zD,zF,zG,zH,↓reduceIte,hv,h0]
  exact hp
theorem punct_e {i:Nat} (hv:one v=true) (h:n≤i∨n<2) :
    FN Tryz.prog 68 [codv q n v,nv i] H (RetP 1 H):=by
  refine g68_of ?_
  unfold g68
  have hp:=Pre.new H [.cells [nv q,nv n,v] 29 none false,.cells [nv 0,nv 0,.slice none 0 0] 29 none false]
  simp (disch:=omega) only [zA,zB,zC,zD,zF,zG,zH,↓reduceIte,hv]
  refine FZ.mono (coord_e hv h) ?_
  rintro _ H3 ⟨rfl,hp3⟩
  simp (disch:=omega) only [zA,zB,zC,zD,zF,zG,zH,↓reduceIte,Bool.not_false]
  refine FZ.mono qb9 ?_
  rintro _ H4 ⟨rfl,hp4⟩
  have g4:H4[H.length+1]? = some (AB.cells [nv 0,nv 0,.slice none 0 0] 29 none false):=hp4.get (hp3.get (by simp))
  obtain⟨H5,s5,g5,pr⟩:=refE g4
  simp (disch:=omega) only [zA,zB,zC,zD,zF,zG,zH,↓reduceIte,g4,s5,g5]
  exact⟨rfl,pr H (by omega) (hp.trans (hp3.trans hp4))⟩
theorem punctured_e {i:Nat} (hv:one v=true) (h:n≤i∨n<2) :
    FN Tryz.prog 18 [codv q n v,nv i] H (RetF 1 H):=by
  refine g18_of ?_
  unfold g18
  have hp:=Pre.new H [.cells [nv q,nv n,v] 29 none false,.cells [nv 0,nv 0,.slice none 0 0,nv 0] 37 none false]
  simp (disch:=omega) only [zA,zB,zC,zD,zF,zG,zH,↓reduceIte,hv]
  refine FZ.mono (punct_e hv h) ?_
  rintro _ H3 ⟨rfl,hp3⟩
  obtain⟨s4,g4,H5,s5,g5,pr⟩:=qpm (k:=H.length+1) (er:=1) (hp3.get (by simp))
  have f4:=qb7 (q:=0) (n:=0) (er:=1) (w:=.slice none 0 0) rfl
  simp (disch:=omega) only [zA,zB,zC,zD,zF,zG,zH,↓reduceIte,s4,g4,f4,s5,g5]
  exact⟨rfl,pr H (by omega) (hp.trans hp3)⟩
theorem short_e {i:Nat} (hv:one v=true) (h:n≤i∨n<2) :
    FN Tryz.prog 70 [codv q n v,nv i] H (RetP 1 H):=by
  refine g70_of ?_
  unfold g70
  have hp:=Pre.new H [.cells [nv q,nv n,v] 29 none false,.cells [nv i] 3 none false,.cells [nv 0,nv 0,.slice none 0 0] 29 none false]
  simp (disch:=omega) only [zA,zB,zC,zD,zF,zG,zH,↓reduceIte,hv]
  refine FZ.mono (coord_e hv h) ?_
  rintro _ H3 ⟨rfl,hp3⟩
  simp (disch:=omega) only [zA,zB,zC,zD,zF,zG,zH,↓reduceIte,Bool.not_false]
  refine FZ.mono qb9 ?_
  rintro _ H4 ⟨rfl,hp4⟩
  have g4:H4[H.length+2]? = some (AB.cells [nv 0,nv 0,.slice none 0 0] 29 none false):=hp4.get (hp3.get (by simp))
  obtain⟨H5,s5,g5,pr⟩:=refE g4
  simp (disch:=omega) only [zA,zB,zC,zD,zF,zG,zH,↓reduceIte,g4,s5,g5]
  exact⟨rfl,pr H (by omega) (hp.trans (hp3.trans hp4))⟩
theorem shortened_e {i:Nat} (hv:one v=true) (h:n≤i∨n<2) :
    FN Tryz.prog 20 [codv q n v,nv i] H (RetF 1 H):=by
  refine g20_of ?_
  unfold g20
  have hp:=Pre.new H [.cells [nv q,nv n,v] 29 none false,.cells [nv 0,nv 0,.slice none 0 0,nv 0] 37 none false]
  simp (disch:=omega) only [zA,zB,zC,zD,zF,zG,zH,↓reduceIte,hv]
  refine FZ.mono (short_e hv h) ?_
  rintro _ H3 ⟨rfl,hp3⟩
  obtain⟨s4,g4,H5,s5,g5,pr⟩:=qpm (k:=H.length+1) (er:=1) (hp3.get (by simp))
  have f4:=qb7 (q:=0) (n:=0) (er:=1) (w:=.slice none 0 0) rfl
  simp (disch:=omega) only [zA,zB,zC,zD,zF,zG,zH,↓reduceIte,s4,g4,f4,s5,g5]
  exact⟨rfl,pr H (by omega) (hp.trans hp3)⟩
theorem punct_m (hv:one v=true) :
    FN Tryz.prog 68 [codv q n v,.int .i64 (-1)] H (RetP 1 H):=by
  refine g68_of ?_
  unfold g68
  have hp:=Pre.new H [.cells [nv q,nv n,v] 29 none false,.cells [nv 0,nv 0,.slice none 0 0] 29 none false]
  simp (disch:=omega) only [zA,zB,zC,zD,zF,zG,zH,↓reduceIte,hv]
  refine FZ.mono (coord_m hv) ?_
  rintro _ H3 ⟨rfl,hp3⟩
  simp (disch:=omega) only [zA,zB,zC,zD,zF,zG,zH,↓reduceIte,Bool.not_false]
  refine FZ.mono qb9 ?_
  rintro _ H4 ⟨rfl,hp4⟩
  have g4:H4[H.length+1]? = some (AB.cells [nv 0,nv 0,.slice none 0 0] 29 none false):=hp4.get (hp3.get (by simp))
  obtain⟨H5,s5,g5,pr⟩:=refE g4
  simp (disch:=omega) only [zA,zB,zC,zD,zF,zG,zH,↓reduceIte,g4,s5,g5]
  exact⟨rfl,pr H (by omega) (hp.trans (hp3.trans hp4))⟩
theorem punctured_m (hv:one v=true) :
    FN Tryz.prog 18 [codv q n v,.int .i64 (-1)] H (RetF 1 H):=by
  refine g18_of ?_
  unfold g18
  have hp:=Pre.new H [.cells [nv q,nv n,v] 29 none false,.cells [nv 0,nv 0,.slice none 0 0,nv 0] 37 none false]
  simp (disch:=omega) only [zA,zB,zC,zD,zF,zG,zH,↓reduceIte,hv]
  refine FZ.mono (punct_m hv) ?_
  rintro _ H3 ⟨rfl,hp3⟩
  obtain⟨s4,g4,H5,s5,g5,pr⟩:=qpm (k:=H.length+1) (er:=1) (hp3.get (by simp))
  have f4:=qb7 (q:=0) (n:=0) (er:=1) (w:=.slice none 0 0) rfl
  simp (disch:=omega) only [zA,zB,zC,zD,zF,zG,zH,↓reduceIte,s4,g4,f4,s5,g5]
  exact⟨rfl,pr H (by omega) (hp.trans hp3)⟩
theorem short_m (hv:one v=true) :
    FN Tryz.prog 70 [codv q n v,.int .i64 (-1)] H (RetP 1 H):=by
  refine g70_of ?_
  unfold g70
  have hp:=Pre.new H [.cells [nv q,nv n,v] 29 none false,.cells [.int .i64 (-1)] 3 none false,.cells [nv 0,nv 0,.slice none 0 0] 29 none false]
  simp (disch:=omega) only [zA,zB,zC,zD,zF,zG,zH,↓reduceIte,hv]
  refine FZ.mono (coord_m hv) ?_
  rintro _ H3 ⟨rfl,hp3⟩
  simp (disch:=omega) only [zA,zB,zC,zD,zF,zG,zH,↓reduceIte,Bool.not_false]
  refine FZ.mono qb9 ?_
  rintro _ H4 ⟨rfl,hp4⟩
  have g4:H4[H.length+2]? = some (AB.cells [nv 0,nv 0,.slice none 0 0] 29 none false):=hp4.get (hp3.get (by simp))
  obtain⟨H5,s5,g5,pr⟩:=refE g4
  simp (disch:=omega) only [zA,zB,zC,zD,zF,zG,zH,↓reduceIte,g4,s5,g5]
  exact⟨rfl,pr H (by omega) (hp.trans (hp3.trans hp4))⟩
theorem shortened_m (hv:one v=true) :
    FN Tryz.prog 20 [codv q n v,.int .i64 (-1)] H (RetF 1 H):=by
  refine g20_of ?_
  unfold g20
  have hp:=Pre.new H [.cells [nv q,nv n,v] 29 none false,.cells [nv 0,nv 0,.slice none 0 0,nv 0] 37 none false]
  simp (disch:=omega) only [zA,zB,zC,zD,zF,zG,zH,↓reduceIte,hv]
  refine FZ.mono (short_m hv) ?_
  rintro _ H3 ⟨rfl,hp3⟩
  obtain⟨s4,g4,H5,s5,g5,pr⟩:=qpm (k:=H.length+1) (er:=1) (hp3.get (by simp))
  have f4:=qb7 (q:=0) (n:=0) (er:=1) (w:=.slice none 0 0) rfl
  simp (disch:=omega) only [zA,zB,zC,zD,zF,zG,zH,↓reduceIte,s4,g4,f4,s5,g5]
  exact⟨rfl,pr H (by omega) (hp.trans hp3)⟩
theorem conc_e1 (hv:one v=true) (hw:one w=true) (h:¬q=4) :
    FN Tryz.prog 73 [codv q n v,codv q2 m w] H (RetP 1 H):=by
  refine g73_of ?_
  unfold g73
  have hp:=Pre.new H [.cells [nv q,nv n,v] 29 none false,.cells [nv q2,nv m,w] 29 none false,.cells [nv 0,nv 0,.slice none 0 0] 29 none false]
  simp (disch:=omega) only [zA,zB,zC,zD,zF,zG,zH,↓reduceIte,hv,hw,h]
  refine FZ.mono qb9 ?_
  rintro _ H4 ⟨rfl,hp4⟩
  obtain⟨H5,s5,g5,pr⟩:=refE (k:=H.length+2) (hp4.get (by simp))
  have g4:H4[H.length+2]? = some (AB.cells [nv 0,nv 0,.slice none 0 0] 29 none false):=hp4.get (by simp)
  simp (disch:=omega) only [zA,zB,zC,zD,zF,zG,zH,↓reduceIte,g4,s5,g5]
  exact⟨rfl,pr H (by omega) (hp.trans hp4)⟩
theorem conc_e2 (hv:one v=true) (hw:one w=true) (h:¬q2=2) :
    FN Tryz.prog 73 [codv 4 n v,codv q2 m w] H (RetP 1 H):=by
  refine g73_of ?_
  unfold g73
  have hp:=Pre.new H [.cells [nv 4,nv n,v] 29 none false,.cells [nv q2,nv m,w] 29 none false,.cells [nv 0,nv 0,.slice none 0 0] 29 none false]
  simp (disch:=omega) only [zA,zB,zC,zD,zF,zG,zH,↓reduceIte,hv,hw,h]
  refine FZ.mono qb9 ?_
  rintro _ H4 ⟨rfl,hp4⟩
  obtain⟨H5,s5,g5,pr⟩:=refE (k:=H.length+2) (hp4.get (by simp))
  have g4:H4[H.length+2]? = some (AB.cells [nv 0,nv 0,.slice none 0 0] 29 none false):=hp4.get (by simp)
  simp (disch:=omega) only [zA,zB,zC,zD,zF,zG,zH,↓reduceIte,g4,s5,g5]
  exact⟨rfl,pr H (by omega) (hp.trans hp4)⟩
theorem conc_e3 (hv:one v=true) (hw:one w=true) {k:Nat} (hl:qbc .lenS [w]=some (nv k)) (h:¬k=2) :
    FN Tryz.prog 73 [codv 4 n v,codv 2 m w] H (RetP 1 H):=by
  refine g73_of ?_
  unfold g73
  have hp:=Pre.new H [.cells [nv 4,nv n,v] 29 none false,.cells [nv 2,nv m,w] 29 none false,.cells [nv 0,nv 0,.slice none 0 0] 29 none false]
  simp (disch:=omega) only [zA,zB,zC,zD,zF,zG,zH,↓reduceIte,hv,hw,hl,h]
  refine FZ.mono qb9 ?_
  rintro _ H4 ⟨rfl,hp4⟩
  obtain⟨H5,s5,g5,pr⟩:=refE (k:=H.length+2) (hp4.get (by simp))
  have g4:H4[H.length+2]? = some (AB.cells [nv 0,nv 0,.slice none 0 0] 29 none false):=hp4.get (by simp)
  simp (disch:=omega) only [zA,zB,zC,zD,zF,zG,zH,↓reduceIte,g4,s5,g5]
  exact⟨rfl,pr H (by omega) (hp.trans hp4)⟩
theorem conc_b (hv:one v=true) (hw:one w=true) (hl:qbc .lenS [w]=some (nv 2)) (h:24<n*m) (hs:n*m≤1000) :
    FN Tryz.prog 73 [codv 4 n v,codv 2 m w] H (RetP 2 H):=by
  refine g73_of ?_
  unfold g73
  have hp:=Pre.new H [.cells [nv 4,nv n,v] 29 none false,.cells [nv 2,nv m,w] 29 none false,.cells [nv 0,nv 0,.slice none 0 0] 29 none false]
  simp (disch:=omega) only [zA,zB,zC,zD,zF,zG,zH,↓reduceIte,hv,hw,hl,h]
  refine FZ.mono qb9 ?_
  rintro _ H4 ⟨rfl,hp4⟩
  obtain⟨H5,s5,g5,pr⟩:=refE (k:=H.length+2) (hp4.get (by simp))
  have g4:H4[H.length+2]? = some (AB.cells [nv 0,nv 0,.slice none 0 0] 29 none false):=hp4.get (by simp)
  simp (disch:=omega) only [zA,zB,zC,zD,zF,zG,zH,↓reduceIte,g4,s5,g5]
  exact⟨rfl,pr H (by omega) (hp.trans hp4)⟩
theorem concat_e1 (hv:one v=true) (hw:one w=true) (h:¬q=4) :
    FN Tryz.prog 26 [codv q n v,codv q2 m w] H (RetF 1 H):=by
  refine g26_of ?_
  unfold g26
  have hp:=Pre.new H [.cells [nv q,nv n,v] 29 none false,.cells [nv q2,nv m,w] 29 none false,.cells [nv 0,nv 0,.slice none 0 0,nv 0] 37 none false]
  simp (disch:=omega) only [zA,zB,zC,zD,zF,zG,zH,↓reduceIte,hv,hw]
  refine FZ.mono (conc_e1 hv hw h) ?_
  rintro _ H3 ⟨rfl,hp3⟩
  obtain⟨s4,g4,H5,s5,g5,pr⟩:=qpm (k:=H.length+2) (er:=1) (hp3.get (by simp))
  have f4:=qb7 (q:=0) (n:=0) (er:=1) (w:=.slice none 0 0) rfl
  simp (disch:=omega) only [zA,zB,zC,zD,zF,zG,zH,↓reduceIte,s4,g4,f4,s5,g5]
  exact⟨rfl,pr H (by omega) (hp.trans hp3)⟩
theorem concat_e2 (hv:one v=true) (hw:one w=true) (h:¬q2=2) :
    FN Tryz.prog 26 [codv 4 n v,codv q2 m w] H (RetF 1 H):=by
  refine g26_of ?_
  unfold g26
  have hp:=Pre.new H [.cells [nv 4,nv n,v] 29 none false,.cells [nv q2,nv m,w] 29 none false,.cells [nv 0,nv 0,.slice none 0 0,nv 0] 37 none false]
  simp (disch:=omega) only [zA,zB,zC,zD,zF,zG,zH,↓reduceIte,hv,hw]
  refine FZ.mono (conc_e2 hv hw h) ?_
  rintro _ H3 ⟨rfl,hp3⟩
  obtain⟨s4,g4,H5,s5,g5,pr⟩:=qpm (k:=H.length+2) (er:=1) (hp3.get (by simp))
  have f4:=qb7 (q:=0) (n:=0) (er:=1) (w:=.slice none 0 0) rfl
  simp (disch:=omega) only [zA,zB,zC,zD,zF,zG,zH,↓reduceIte,s4,g4,f4,s5,g5]
  exact⟨rfl,pr H (by omega) (hp.trans hp3)⟩
theorem concat_e3 (hv:one v=true) (hw:one w=true) {k:Nat} (hl:qbc .lenS [w]=some (nv k)) (h:¬k=2) :
    FN Tryz.prog 26 [codv 4 n v,codv 2 m w] H (RetF 1 H):=by
  refine g26_of ?_
  unfold g26
  have hp:=Pre.new H [.cells [nv 4,nv n,v] 29 none false,.cells [nv 2,nv m,w] 29 none false,.cells [nv 0,nv 0,.slice none 0 0,nv 0] 37 none false]
  simp (disch:=omega) only [zA,zB,zC,zD,zF,zG,zH,↓reduceIte,hv,hw]
  refine FZ.mono (conc_e3 hv hw hl h) ?_
  rintro _ H3 ⟨rfl,hp3⟩
  obtain⟨s4,g4,H5,s5,g5,pr⟩:=qpm (k:=H.length+2) (er:=1) (hp3.get (by simp))
  have f4:=qb7 (q:=0) (n:=0) (er:=1) (w:=.slice none 0 0) rfl
  simp (disch:=omega) only [zA,zB,zC,zD,zF,zG,zH,↓reduceIte,s4,g4,f4,s5,g5]
  exact⟨rfl,pr H (by omega) (hp.trans hp3)⟩
theorem concat_b (hv:one v=true) (hw:one w=true) (hl:qbc .lenS [w]=some (nv 2)) (h:24<n*m) (hs:n*m≤1000) :
    FN Tryz.prog 26 [codv 4 n v,codv 2 m w] H (RetF 2 H):=by
  refine g26_of ?_
  unfold g26
  have hp:=Pre.new H [.cells [nv 4,nv n,v] 29 none false,.cells [nv 2,nv m,w] 29 none false,.cells [nv 0,nv 0,.slice none 0 0,nv 0] 37 none false]
  simp (disch:=omega) only [zA,zB,zC,zD,zF,zG,zH,↓reduceIte,hv,hw]
  refine FZ.mono (conc_b hv hw hl h hs) ?_
  rintro _ H3 ⟨rfl,hp3⟩
  obtain⟨s4,g4,H5,s5,g5,pr⟩:=qpm (k:=H.length+2) (er:=2) (hp3.get (by simp))
  have f4:=qb7 (q:=0) (n:=0) (er:=2) (w:=.slice none 0 0) rfl
  simp (disch:=omega) only [zA,zB,zC,zD,zF,zG,zH,↓reduceIte,s4,g4,f4,s5,g5]
  exact⟨rfl,pr H (by omega) (hp.trans hp3)⟩
theorem sumIn_e (hv:one v=true) (hw:one w=true) (h:¬q=q2) :
    FN Tryz.prog 23 [codv q n v,codv q2 m w] H (RetF 1 H):=by
  refine g23_of ?_
  unfold g23
  have s:=qgc (H0:=H++[.cells [nv q,nv n,v] 29 none false,.cells [nv q2,nv m,w] 29 none false]) (k:=H.length+2) (er:=1) (by simp)
  simp only [List.append_assoc,List.cons_append,List.nil_append] at s
  have hp:=Pre.new H [.cells [nv q,nv n,v] 29 none false,.cells [nv q2,nv m,w] 29 none false,.cells [nv 0,nv 0,.slice none 0 0,nv 1] 37 none false]
  simp (disch:=(first|omega|(simp only [qbj]<;>omega)|(simp only [qbg];done)|rfl)) only [zA,zB,zC,zD,zF,zG,zH,Nat.reduceEqDiff,Nat.reduceLT,Nat.reduceLeDiff,↓reduceIte,hv,hw,h,s]
  exact⟨rfl,hp⟩
theorem sumIn_b (hv:one v=true) (hw:one w=true) (h:24<n+m) (hs:n+m≤1000) :
    FN Tryz.prog 23 [codv q n v,codv q m w] H (RetF 2 H):=by
  refine g23_of ?_
  unfold g23
  have s:=qgc (H0:=H++[.cells [nv q,nv n,v] 29 none false,.cells [nv q,nv m,w] 29 none false]) (k:=H.length+2) (er:=2) (by simp)
  simp only [List.append_assoc,List.cons_append,List.nil_append] at s
  have hp:=Pre.new H [.cells [nv q,nv n,v] 29 none false,.cells [nv q,nv m,w] 29 none false,.cells [nv 0,nv 0,.slice none 0 0,nv 2] 37 none false]
  simp (disch:=(first|omega|(simp only [qbj]<;>omega)|(simp only [qbg];done)|rfl)) only [zA,zB,zC,zD,zF,zG,zH,Nat.reduceEqDiff,Nat.reduceLT,Nat.reduceLeDiff,↓reduceIte,hv,hw,h,s]
  exact⟨rfl,hp⟩
theorem dblIn_e (hv:one v=true) (hw:one w=true) (h:¬(q=q2∧n=m)) :
    FN Tryz.prog 25 [codv q n v,codv q2 m w] H (RetF 1 H):=by
  refine g25_of ?_
  unfold g25
  have s:=qgc (H0:=H++[.cells [nv q,nv n,v] 29 none false,.cells [nv q2,nv m,w] 29 none false]) (k:=H.length+2) (er:=1) (by simp)
  simp only [List.append_assoc,List.cons_append,List.nil_append] at s
  have hp:=Pre.new H [.cells [nv q,nv n,v] 29 none false,.cells [nv q2,nv m,w] 29 none false,.cells [nv 0,nv 0,.slice none 0 0,nv 1] 37 none false]
  by_cases hq:q=q2
  · subst hq
    have h1:¬n=m:=fun h1=>h ⟨rfl,h1⟩
    simp (disch:=(first|omega|(simp only [qbj]<;>omega)|(simp only [qbg];done)|rfl)) only [zA,zB,zC,zD,zF,zG,zH,Nat.reduceEqDiff,Nat.reduceLT,Nat.reduceLeDiff,↓reduceIte,hv,hw,h1,s]
    exact⟨rfl,hp⟩
  · simp (disch:=(first|omega|(simp only [qbj]<;>omega)|(simp only [qbg];done)|rfl)) only [zA,zB,zC,zD,zF,zG,zH,Nat.reduceEqDiff,Nat.reduceLT,Nat.reduceLeDiff,↓reduceIte,hv,hw,hq,s]
    exact⟨rfl,hp⟩
theorem dblIn_b (hv:one v=true) (hw:one w=true) (h:24<2*n) (hs:2*n≤1000) :
    FN Tryz.prog 25 [codv q n v,codv q n w] H (RetF 2 H):=by
  refine g25_of ?_
  unfold g25
  have s:=qgc (H0:=H++[.cells [nv q,nv n,v] 29 none false,.cells [nv q,nv n,w] 29 none false]) (k:=H.length+2) (er:=2) (by simp)
  simp only [List.append_assoc,List.cons_append,List.nil_append] at s
  have hp:=Pre.new H [.cells [nv q,nv n,v] 29 none false,.cells [nv q,nv n,w] 29 none false,.cells [nv 0,nv 0,.slice none 0 0,nv 2] 37 none false]
  simp (disch:=(first|omega|(simp only [qbj]<;>omega)|(simp only [qbg];done)|rfl)) only [zA,zB,zC,zD,zF,zG,zH,Nat.reduceEqDiff,Nat.reduceLT,Nat.reduceLeDiff,↓reduceIte,hv,hw,h,s]
  exact⟨rfl,hp⟩
theorem evIn_e (hv:one v=true) (h:¬q=2) :
    FN Tryz.prog 29 [codv q n v] H (RetF 1 H):=by
  refine g29_of ?_
  unfold g29
  have s:=qgc (H0:=H++[.cells [nv q,nv n,v] 29 none false]) (k:=H.length+1) (er:=1) (by simp)
  simp only [List.append_assoc,List.cons_append,List.nil_append] at s
  have hp:=Pre.new H [.cells [nv q,nv n,v] 29 none false,.cells [nv 0,nv 0,.slice none 0 0,nv 1] 37 none false]
  simp (disch:=(first|omega|(simp only [qbj]<;>omega)|(simp only [qbg];done)|rfl)) only [zA,zB,zC,zD,zF,zG,zH,Nat.reduceEqDiff,Nat.reduceLT,Nat.reduceLeDiff,↓reduceIte,hv,h,s]
  exact⟨rfl,hp⟩
theorem conIn_e1 (hv:one v=true) (hw:one w=true) (h:¬q=4) :
    FN Tryz.prog 27 [codv q n v,codv q2 m w] H (RetF 1 H):=by
  refine g27_of ?_
  unfold g27
  have s:=qgc (H0:=H++[.cells [nv q,nv n,v] 29 none false,.cells [nv q2,nv m,w] 29 none false]) (k:=H.length+2) (er:=1) (by simp)
  simp only [List.append_assoc,List.cons_append,List.nil_append] at s
  have hp:=Pre.new H [.cells [nv q,nv n,v] 29 none false,.cells [nv q2,nv m,w] 29 none false,.cells [nv 0,nv 0,.slice none 0 0,nv 1] 37 none false]
  simp (disch:=(first|omega|(simp only [qbj]<;>omega)|(simp only [qbg];done)|rfl)) only [zA,zB,zC,zD,zF,zG,zH,Nat.reduceEqDiff,Nat.reduceLT,Nat.reduceLeDiff,↓reduceIte,hv,hw,h,s]
  exact⟨rfl,hp⟩
theorem conIn_e2 (hv:one v=true) (hw:one w=true) (h:¬q2=2) :
    FN Tryz.prog 27 [codv 4 n v,codv q2 m w] H (RetF 1 H):=by
  refine g27_of ?_
  unfold g27
  have s:=qgc (H0:=H++[.cells [nv 4,nv n,v] 29 none false,.cells [nv q2,nv m,w] 29 none false]) (k:=H.length+2) (er:=1) (by simp)
  simp only [List.append_assoc,List.cons_append,List.nil_append] at s
  have hp:=Pre.new H [.cells [nv 4,nv n,v] 29 none false,.cells [nv q2,nv m,w] 29 none false,.cells [nv 0,nv 0,.slice none 0 0,nv 1] 37 none false]
  simp (disch:=(first|omega|(simp only [qbj]<;>omega)|(simp only [qbg];done)|rfl)) only [zA,zB,zC,zD,zF,zG,zH,Nat.reduceEqDiff,Nat.reduceLT,Nat.reduceLeDiff,↓reduceIte,hv,hw,h,s]
  exact⟨rfl,hp⟩
theorem conIn_e3 (hv:one v=true) (hw:one w=true) {k:Nat} (hl:qbc .lenS [w]=some (nv k)) (h:¬k=2) :
    FN Tryz.prog 27 [codv 4 n v,codv 2 m w] H (RetF 1 H):=by
  refine g27_of ?_
  unfold g27
  have s:=qgc (H0:=H++[.cells [nv 4,nv n,v] 29 none false,.cells [nv 2,nv m,w] 29 none false]) (k:=H.length+2) (er:=1) (by simp)
  simp only [List.append_assoc,List.cons_append,List.nil_append] at s
  have hp:=Pre.new H [.cells [nv 4,nv n,v] 29 none false,.cells [nv 2,nv m,w] 29 none false,.cells [nv 0,nv 0,.slice none 0 0,nv 1] 37 none false]
  simp (disch:=(first|omega|(simp only [qbj]<;>omega)|(simp only [qbg];done)|rfl)) only [zA,zB,zC,zD,zF,zG,zH,Nat.reduceEqDiff,Nat.reduceLT,Nat.reduceLeDiff,↓reduceIte,hv,hw,hl,h,s]
  exact⟨rfl,hp⟩
theorem conIn_b (hv:one v=true) (hw:one w=true) (hl:qbc .lenS [w]=some (nv 2)) (h:24<n*m) (hs:n*m≤1000) :
    FN Tryz.prog 27 [codv 4 n v,codv 2 m w] H (RetF 2 H):=by
  refine g27_of ?_
  unfold g27
  have s:=qgc (H0:=H++[.cells [nv 4,nv n,v] 29 none false,.cells [nv 2,nv m,w] 29 none false]) (k:=H.length+2) (er:=2) (by simp)
  simp only [List.append_assoc,List.cons_append,List.nil_append] at s
  have hp:=Pre.new H [.cells [nv 4,nv n,v] 29 none false,.cells [nv 2,nv m,w] 29 none false,.cells [nv 0,nv 0,.slice none 0 0,nv 2] 37 none false]
  simp (disch:=(first|omega|(simp only [qbj]<;>omega)|(simp only [qbg];done)|rfl)) only [zA,zB,zC,zD,zF,zG,zH,Nat.reduceEqDiff,Nat.reduceLT,Nat.reduceLeDiff,↓reduceIte,hv,hw,hl,h,s]
  exact⟨rfl,hp⟩
end
end Go.Sim

namespace Go.Sim
open Go Go.Proofs
theorem Rws.app {H:AH} {vs ws:List Value} {css dss:List (List Value)} (h:Rws H vs css) (k:Rws H ws dss):Rws H (vs++ws) (css++dss):=by
  have hl1:=h.1
  have hl2:=k.1
  refine⟨by simp [hl1,hl2],fun j hj=>?_⟩
  simp only [List.getD_eq_getElem?_getD]
  by_cases hjA:j<vs.length
  · rw [List.getElem?_append_left hjA,List.getElem?_append_left (by omega)]
    have:=h.2 j (by omega)
    simpa only [List.getD_eq_getElem?_getD] using this
  · rw [List.length_append] at hj
    rw [List.getElem?_append_right (by omega),List.getElem?_append_right (by omega)]
    have:=k.2 (j-vs.length) (by omega)
    simp only [List.getD_eq_getElem?_getD] at this
    rw [hl1] at this ⊢
    exact this
theorem Rws.oneV {H:AH} {vs:List Value} {css:List (List Value)} (h:Rws H vs css):vs.all Sim.one=true:=by
  rw [List.all_eq_true]
  intro x hx
  obtain⟨k,hk,rfl⟩:=List.mem_iff_getElem.1 hx
  have:=(h.2 k (by rw [←h.1];exact hk)).one
  simpa [List.getD_eq_getElem?_getD,List.getElem?_eq_getElem hk] using this
theorem AccR.appR {H0 H:AH} (hl0:H0.length≤H.length) {v u:Value} {css dss:List (List Value)} {e:TypeId} {by_:Nat} (h:AccR H0 H v css e) (hu:RowR H u dss) (hpl:∀ cs∈dss,cs.all qg5=true) (hb:(css.length+dss.length)*by_≤140737488355328) (hl:css.length+dss.length≤9223372036854775807) :
    ∃ v' H',xact (.app e 1 by_) H [v,u]=some (v',H')∧AccR H0 H' v' (css++dss) e∧(Pre H0 H→Pre H0 H')∧H.length≤H'.length∧(∀ (b:Nat) (cs:List Value) (e':TypeId) (op:Option Nat) (ro:Bool),e'≠e→H[b]? = some (AB.cells cs e' op ro)→H'[b]? = some (AB.cells cs e' op ro)):=by
  obtain⟨vs,h1,h2,h3⟩:=h
  obtain⟨ws,k1,k2⟩:=hu
  obtain⟨v',H',q1,q2,q3,q4⟩:=Acc.appG (by_:=by_) hl0 h1 k1 k2.oneV (by rw [h2.1,k2.1];exact hb) (by rw [h2.1,k2.1];exact hl)
  have hr:∀ r cs,Row H r cs→cs.all qg5=true→Row H' r cs:=by
    intro r cs hr hc
    rcases h1 with ⟨rfl,rfl⟩|⟨b,hb1,rfl,op,h4,h5⟩
    · exact hr.pre fun b' hb'=>q3 b' hb' (fun _ _=>by simp)
    · exact hr.keep hc h5 h2.isSl fun b' hb' hne=>q3 b' hb' (fun l c=>by simp;intro e;exact absurd e.symm hne)
  have up:∀ {us:List Value} {ess:List (List Value)},Rws H us ess→(∀ cs∈ess,cs.all qg5=true)→Rws H' us ess:=fun {us ess} h hp=>⟨h.1,fun k hk=>hr _ _ (h.2 k hk) (hp _ (getD_mem hk))⟩
  refine⟨v',H',q1,⟨_,q2,(up h2 h3).app (up k2 hpl),fun cs hcs=>?_⟩,fun hp b hb=>?_,q4,fun b cs e' op ro he hb=>?_⟩
  · rcases List.mem_append.1 hcs with h|h
    · exact h3 _ h
    · exact hpl _ h
  · refine (q3 b (by omega) fun l c e=>?_).trans (hp b hb)
    rcases h1 with ⟨rfl,rfl⟩|⟨b',hb',rfl,_⟩
    · cases e
    · cases e;omega
  · rw [q3 b (qbx hb) fun l c ev=>?_]
    · exact hb
    · rcases h1 with ⟨rfl,rfl⟩|⟨b',hb',rfl,op',_,h5⟩
      · cases ev
      · cases ev
        rw [hb] at h5
        cases h5
        exact he rfl
section
variable {α β:Type} [Fl α] [Fl β] [DecidableEq α] [DecidableEq β] {cda:α→Nat} {cdb:β→Nat} {p e p2 e2:Nat} {blk blk2:AB} {H:AH}
def lcon (two:α) (rep:List α→List β) (A:List (List α)):List (List β):=A.flatMap fun x=>[rep x,rep (x.map (Fl.mul two))]
theorem lcon_len (two:α) (rep:List α→List β):∀ A:List (List α),(lcon two rep A).length=2*A.length
  | []=>rfl
  | a :: A=>by
    have:=lcon_len two rep A
    unfold lcon at this ⊢
    rw [List.flatMap_cons,List.length_append,this,List.length_cons];simp;omega
theorem lcon_take {two:α} {rep:List α→List β} {A:List (List α)} {k:Nat} (hk:k<A.length):lcon two rep (A.take (k+1))=lcon two rep (A.take k)++[rep (A.getD k []),rep ((A.getD k []).map (Fl.mul two))]:=by
  unfold lcon
  rw [List.take_succ_eq_append_getElem hk,List.flatMap_append,qcb hk];simp
theorem lcon_red {two:α} {rep:List α→List β} {A:List (List α)} {N:Nat} (h1:∀ x∈lcat two A,(rep x).length=N):qbk (lcon two rep A)=qbk ((lcat two A).map rep):=by
  have m1:∀ y,y∈lcon two rep A↔y∈(lcat two A).map rep:=by
    intro y
    simp only [lcon,lcat,List.mem_flatMap,List.mem_map,List.mem_append,List.mem_cons,List.not_mem_nil,or_false]
    constructor
    · rintro⟨a,ha,rfl|rfl⟩
      · exact⟨a,.inl ha,rfl⟩
      · exact⟨_,.inr ⟨a,ha,rfl⟩,rfl⟩
    · rintro⟨x,ha|⟨a,ha,rfl⟩,rfl⟩
      · exact⟨x,ha,.inl rfl⟩
      · exact⟨a,ha,.inr rfl⟩
  have h2:∀ y∈(lcat two A).map rep,y.length=N:=fun y hy=>by obtain⟨x,hx,rfl⟩:=List.mem_map.1 hy;exact h1 x hx
  exact lred_eq (fun y hy=>h2 y ((m1 y).1 hy)) h2 fun u=>⟨LSpan.mono fun y hy=>LSpan.mem ((m1 y).1 hy),LSpan.mono fun y hy=>LSpan.mem ((m1 y).2 hy)⟩
theorem repw_c (Q4:FQ α cda p e 4 blk) (Q2:FQ β cdb p2 e2 2 blk2) {v w:Value} {m:Nat} {B:List (List β)} {x:List α} (rep:List α→List β)
    (hrep:∀ x:List α,(rep x).map cdb=repL m ((B.getD 0 []).map cdb) ((B.getD 1 []).map cdb) (x.map cda)) (hw:RowR H w (evr cdb B)) (hv:Row H v (evs cda x)) (hB:∀ y∈B,y.length=m) (hB2:B.length=2) (hx:x.length*m≤1000) (hm:m≤1000) (hx2:x.length≤1000) :
    FN Tryz.prog 43 [codv 2 m w,v] H (fun r H'=>Pre H H'∧Row H' r (evs cdb (rep x))):=by
  have hBx:∀ l∈B.map (fun l=>l.map cdb),l.length=m∧∀ z∈l,z<2:=by
    intro l hl
    obtain⟨y,hy,rfl⟩:=List.mem_map.1 hl
    refine⟨by rw [List.length_map];exact hB y hy,fun z hz=>?_⟩
    obtain⟨a,_,rfl⟩:=List.mem_map.1 hz
    exact (Q2.ok 0).lt a
  have eB:∀ k,(B.map fun l=>l.map cdb).getD k []=(B.getD k []).map cdb:=fun k=>by
    simp only [List.getD_eq_getElem?_getD,List.getElem?_map]
    cases B[k]?<;>rfl
  have:=replaced_c (us:=x.map cda) (B:=B.map fun l=>l.map cdb) (m:=m) (v:=v) (H:=H) (by rw [←evr_nv];exact hw) (by rw [List.length_map];exact hB2) hBx (by rw [←evs_nv];exact hv) (fun u hu=>by obtain⟨a,_,rfl⟩:=List.mem_map.1 hu;exact (Q4.ok 0).lt a) (by rw [List.length_map];exact hx) hm (by rw [List.length_map];exact hx2)
  rw [eB,eB,←hrep] at this
  refine FN.mono this fun r H' h=>⟨h.1,?_⟩
  rw [evs_nv];exact h.2
theorem conIn_c (Q4:FQ α cda p e 4 blk) (Q2:FQ β cdb p2 e2 2 blk2) {two:α} (h2:cda two=2) {v w:Value} {n m:Nat} {A:List (List α)} {B:List (List β)} (rep:List α→List β)
    (hrep:∀ x:List α,(rep x).map cdb=repL m ((B.getD 0 []).map cdb) ((B.getD 1 []).map cdb) (x.map cda)) (hrl:∀ x:List α,x.length=n→(rep x).length=n*m) (hv:RowR H v (evr cda A)) (hw:RowR H w (evr cdb B)) (hA:∀ x∈A,x.length=n) (hB:∀ x∈B,x.length=m) (hB2:B.length=2) (hlA:A.length≤100) (hn0:0<n) (hm0:0<m) (hn:n≤24) (hm:m≤24) (hnm:n*m≤24) :
    FN Tryz.prog 27 [codv 4 n v,codv 2 m w] H (RetG cdb 2 (n*m) (qbk ((lcat two A).map rep)) H):=by
  refine g27_of ?_
  unfold g27
  have ho:=hv.one'
  have ho2:=hw.one'
  have lw:=qhj hw
  rw [hB2] at lw
  have h24:¬24<n*m:=by omega
  simp (disch:=omega) only [zA,zB,zC,zD,zF,zG,zH,↓reduceIte,ho,ho2,lw,h24]
  obtain⟨HX,hHX⟩:∃ HX,HX=H++[.cells [nv 4,nv n,v] 29 none false,.cells [nv 2,nv m,w] 29 none false,.cells [nv 0,nv 0,.slice none 0 0,nv 0] 37 none false]:=⟨_,rfl⟩
  have hX:Pre H HX:=by rw [hHX];exact Pre.new _ _
  have g0:HX[H.length]? = some (.cells [nv 4,nv n,v] 29 none false):=by rw [hHX];simp
  have g1:HX[H.length+1]? = some (.cells [nv 2,nv m,w] 29 none false):=by rw [hHX];simp
  have g2:HX[H.length+2]? = some (.cells [nv 0,nv 0,.slice none 0 0,nv 0] 37 none false):=by rw [hHX];simp
  have hXl:HX.length=H.length+3:=by rw [hHX];simp
  rw [←hHX]
  clear hHX
  refine FZ.mono (over_c Q4) ?_
  rintro _ H3 ⟨hp3,b,rfl,hb⟩
  have sf:=qbs (H:=H3++[.cells [nv 0,nv 0,.slice none 0 0] 76 none false]) (bl:=H3.length) (x:=nv p) (y:=nv e) (z:=.slice (some ⟨b,0,none⟩) e e) (c0:=nv 0) (c1:=nv 0) (c2:=.slice none 0 0) (e:=76) (op:=none) rfl rfl rfl
  rw [qb2] at sf
  simp (disch:=omega) only [zA,zB,zC,zD,zF,zG,zH,↓reduceIte,sf]
  obtain⟨HY,hHY⟩:∃ HY,HY=H3++[fbx p e b e]:=⟨_,rfl⟩
  have hY:Pre H3 HY:=by rw [hHY];exact Pre.new _ _
  have gf:HY[H3.length]? = some (fbx p e b e):=by rw [hHY];simp
  have hYl:HY.length=H3.length+1:=by rw [hHY];simp
  have e0:H3++[.cells [nv p,nv e,.slice (some ⟨b,0,none⟩) e e] 76 none false,.cells [] 31 none false]=HY++[.cells [] 31 none false]:=by rw [hHY];simp
  rw [e0]
  clear hHY e0 sf
  have hXY:=hp3.trans hY
  refine loopV2.nat A.length (fun k out i H'=>i=nv k∧Pre HY H'∧AccR HY H' out (evr cdb (lcon two rep (A.take k))) 31) ⟨rfl,Pre.new _ _,?_⟩ ?_ ?_
  · have:=AccR.new (H0:=HY) (H:=HY) (Nat.le_refl _) (e:=31) (Y:=[])
    rw [hYl] at this
    exact this
  · rintro k out i H4 hk ⟨rfl,hp4,ho4⟩ J hJ
    have hpX4:=hXY.trans hp4
    have g04:=hpX4.get g0
    have g14:=hpX4.get g1
    have gf4:=hp4.get gf
    have hv4:=hv.pre (hX.trans hpX4)
    obtain⟨vs,hvs,hvl,hvr⟩:=hv4.open
    obtain⟨vl,vi,vd,_⟩:=hvs.allV
    rw [hvl] at vl
    have hk1:k<vs.length:=by omega
    have hxl:=hA _ (getD_mem (d:=[]) hk)
    have hw4:=hw.pre (hX.trans hpX4)
    simp only [fbx] at gf4
    simp (disch:=omega) only [zA,zB,zC,zD,zF,zG,zH,↓reduceIte,g04,g14,gf4,vl,hk,hk1,vi,vd]
    refine FZ.mono (repw_c Q4 Q2 rep hrep hw4 (hvr k hk) hB hB2 (by rw [hxl];omega) (by omega) (by rw [hxl];omega)) ?_
    rintro r6 H6 ⟨hp6,hr6⟩
    obtain⟨_,_,vd6,_⟩:=(hvs.pre hp6).allV
    have g06:=hp6.get g04
    have g16:=hp6.get g14
    have gf6:=hp6.get gf4
    simp (disch:=omega) only [zA,zB,zC,zD,zF,zG,zH,↓reduceIte,g06,g16,gf6,vd6,hk1]
    have ht:=rtimes_c (Q4.ok b) (a:=two) (((hY.trans hp4).trans hp6).get hb) ((hvr k hk).pre hp6) (by rw [hxl];omega)
    rw [h2] at ht
    refine FZ.mono ht ?_
    rintro r7 H7 ⟨hp7,hr7⟩
    have g17:=hp7.get g16
    simp (disch:=omega) only [zA,zB,zC,zD,zF,zG,zH,Nat.reduceEqDiff,Nat.reduceLT,Nat.reduceLeDiff,↓reduceIte,g17]
    refine FZ.mono (repw_c Q4 Q2 rep hrep (hw4.pre (hp6.trans hp7)) hr7.row hB hB2 (by rw [List.length_map,hxl];omega) (by omega) (by rw [List.length_map,hxl];omega)) ?_
    rintro r8 H8 ⟨hp8,hr8⟩
    have hp48:=hp6.trans (hp7.trans hp8)
    have hr68:=hr6.pre (hp7.trans hp8)
    have hp9:=Pre.new H8 [.cells [r6,r8] 31 none false]
    have hrr:=qg4 (n:=0) (bl:=H8.length) (H:=H8++[.cells [r6,r8] 31 none false]) (by simp) (hr68.pre hp9) (hr8.pre hp9)
    have hkl:=lcon_len two rep (A.take k)
    rw [List.length_take] at hkl
    obtain⟨out',H9,e1,ho',hp',_⟩:=((ho4.pre hp48).pre hp9).appR (by_:=24) ((hp4.trans hp48).trans hp9).len hrr (fun cs hcs=>by obtain⟨x,_,rfl⟩:=List.mem_map.1 hcs;exact qb3 _) (by rw [List.length_map,hkl];simp;omega) (by rw [List.length_map,hkl];simp;omega)
    simp (disch:=(first|omega|(simp only [qbj]<;>omega)|(simp only [qbg];done)|rfl)) only [zA,zB,zC,zD,zF,zG,zH,Nat.reduceEqDiff,Nat.reduceLT,Nat.reduceLeDiff,↓reduceIte,hr68.fill,hr8.fill,e1]
    refine hJ _ _ _ ⟨rfl,hp' ((hp4.trans hp48).trans hp9),?_⟩
    rw [lcon_take hk]
    simpa [evr] using ho'
  · rintro out i H4 ⟨rfl,hp4,ho4⟩ J
    have hpX4:=hXY.trans hp4
    have g04:=hpX4.get g0
    have g14:=hpX4.get g1
    have vl:=qhj (hv.pre (hX.trans hpX4))
    simp (disch:=omega) only [zA,zB,zC,zD,zF,zG,zH,↓reduceIte,g04,g14,vl]
    rw [List.take_of_length_le (Nat.le_refl _)] at ho4
    have hcl:∀ x∈lcat two A,(rep x).length=n*m:=by
      intro x hx
      refine hrl x ?_
      rcases List.mem_append.1 hx with h|h
      · exact hA x h
      · obtain⟨z,hz,rfl⟩:=List.mem_map.1 h;rw [List.length_map,hA z hz]
    have hnm1:0<n*m:=Nat.mul_pos hn0 hm0
    have hwid:∀ y∈lcon two rep A,y.length=n*m:=by
      intro y hy
      obtain⟨a,ha,h⟩:=List.mem_flatMap.1 hy
      simp only [List.mem_cons,List.not_mem_nil,or_false] at h
      rcases h with rfl|rfl
      · exact hrl _ (hA a ha)
      · exact hrl _ (by rw [List.length_map,hA a ha])
    refine FZ.mono (qkz Q2 ho4.rowR hwid (by rw [lcon_len];omega) (by omega) hnm1) ?_
    rintro _ H10 ⟨hp10,w',rfl,hw'⟩
    rw [lcon_red hcl] at hw'
    obtain⟨H11,st,g11,hp11,hw11⟩:=qmm (H0:=H) (H1:=H10) (i:=H.length+2) (q:=2) (n:=n*m) (er:=0) ((hpX4.trans hp10).get g2) hw' (by have:=hpX4.len;omega) (by omega) (hX.trans (hpX4.trans hp10))
    have g10:=(hpX4.trans hp10).get g2
    simp (disch:=omega) only [zA,zB,zC,zD,zF,zG,zH,↓reduceIte,g10,st,g11]
    exact⟨hp11,w',rfl,hw11.mono (by have:=(hX.trans hpX4).len;omega)⟩
end
end Go.Sim

namespace Go.Sim
open Go Go.Proofs
section
variable {α:Type} [Fl α] [DecidableEq α] {cd:α→Nat} {p e b c q:Nat} {blk:AB} {H:AH}
def wl (n:Nat) (A:List (List α)) (P:List Nat) (j:Nat):Nat→List α
  | 0=>qdg n j
  | k+1=>if k∈P then (wl n A P j k).set k (Fl.neg (ent A (P.idxOf k) j)) else wl n A P j k
theorem wl_len (n:Nat) (A:List (List α)) (P:List Nat) (j:Nat):∀ k,(wl n A P j k).length=n
  | 0=>by simp [wl,qdg]
  | k+1=>by unfold wl;split<;>simp [wl_len n A P j k]
theorem wl_get {n:Nat} {A:List (List α)} {P:List Nat} {j t:Nat} (ht:t<n):∀ k,k≤n→(wl n A P j k).getD t Fl.zero=if t<k∧t∈P then Fl.neg (ent A (P.idxOf t) j) else (qdg n j).getD t Fl.zero
  | 0,_=>by rw [if_neg (fun h=>by omega)];rfl
  | k + 1,hk=>by
    have ih:=wl_get (A:=A) (P:=P) (j:=j) ht k (by omega)
    unfold wl
    by_cases hkP:k∈P
    · rw [if_pos hkP,getD_set (by rw [wl_len];omega)]
      by_cases htk:t=k
      · subst htk;rw [if_pos rfl,if_pos ⟨by omega,hkP⟩]
      · rw [if_neg htk,ih]
        by_cases h:t<k∧t∈P
        · rw [if_pos h,if_pos ⟨by omega,h.2⟩]
        · rw [if_neg h,if_neg (fun h2=>h ⟨by omega,h2.2⟩)]
    · rw [if_neg hkP,ih]
      by_cases h:t<k∧t∈P
      · rw [if_pos h,if_pos ⟨by omega,h.2⟩]
      · rw [if_neg h,if_neg (fun h2=>h ⟨by
          have:t≠k:=fun e=>hkP (e ▸ h2.2)
          omega,h2.2⟩)]
theorem lnullk_get {n:Nat} {A:List (List α)} {P:List Nat} (hP:∀ i,i<P.length→P.getD i 0<n) (hnd:P.Nodup) {j t:Nat} (ht:t<n):∀ m,m≤P.length→(qdv n A P j m).getD t Fl.zero=if t∈P.take m then Fl.neg (ent A (P.idxOf t) j) else (qdg n j).getD t Fl.zero
  | 0,_=>by simp [qdv]
  | m + 1,hm=>by
    have ih:=lnullk_get (A:=A) (j:=j) hP hnd ht m (by omega)
    have hml:m<P.length:=by omega
    have hPm:P.getD m 0=P[m]:=by rw [List.getD_eq_getElem?_getD,List.getElem?_eq_getElem hml];rfl
    unfold qdv
    rw [getD_set (by rw [qct];exact hP m hml),ih,List.take_succ_eq_append_getElem hml,hPm]
    by_cases h:t=P[m]
    · rw [if_pos h,if_pos (List.mem_append_right _ (by rw [h];exact List.mem_singleton_self _))]
      have:P.idxOf t=m:=by rw [h];exact hnd.idxOf_getElem m hml
      rw [this]
    · rw [if_neg h]
      by_cases h2:t∈P.take m
      · rw [if_pos h2,if_pos (List.mem_append_left _ h2)]
      · rw [if_neg h2,if_neg (fun h3=>(List.mem_append.1 h3).elim h2 fun h4=>h (List.mem_singleton.1 h4))]
theorem wl_full {n:Nat} {A:List (List α)} {P:List Nat} (hP:∀ i,i<P.length→P.getD i 0<n) (hnd:P.Nodup) (j:Nat):wl n A P j n=qdv n A P j P.length:=by
  refine List.ext_getElem (by rw [wl_len,qct]) fun t h1 h2=>?_
  rw [wl_len] at h1
  have e1:=wl_get (A:=A) (P:=P) (j:=j) h1 n (Nat.le_refl _)
  have e2:=lnullk_get (A:=A) hP hnd (j:=j) h1 P.length (Nat.le_refl _)
  rw [List.take_length] at e2
  have e3:(wl n A P j n).getD t Fl.zero=(qdv n A P j P.length).getD t Fl.zero:=by
    rw [e1,e2]
    by_cases h:t∈P
    · rw [if_pos ⟨h1,h⟩,if_pos h]
    · rw [if_neg (fun h2=>h h2.2),if_neg h]
  simpa [List.getD_eq_getElem?_getD,wl_len,qct,h1] using e3
theorem piv_nodup {n:Nat} {A:List (List α)} {P:List Nat} (h:RedTo n n A P):P.Nodup:=by
  rw [List.nodup_iff_pairwise_ne,List.pairwise_iff_getElem]
  intro i j hi hj hij
  have:=h.inc i j hij hj
  rw [List.getD_eq_getElem?_getD,List.getElem?_eq_getElem hi,List.getD_eq_getElem?_getD,List.getElem?_eq_getElem hj,Option.getD_some,Option.getD_some] at this
  omega
set_option maxHeartbeats 1000000 in
theorem qkg (Q:FQ α cd p e q blk) {v:Value} {n:Nat} {A:List (List α)} (hv:RowR H v (evr cd A)) (hA:LRed n A) (hn:n≤24) (hn0:1≤n) :
    FN Tryz.prog 34 [codv q n v] H (fun r H'=>Pre H H'∧∃ w,r=codv q n w∧Lw.RowLo H.length H' w (evr cd (qcn n A))):=by
  refine g34_of ?_
  unfold g34
  have hle:=hA.le
  have ho:=hv.one'
  simp (disch:=omega) only [zA,zB,zC,zD,zF,zG,zH,↓reduceIte,ho]
  obtain⟨HX,hHX⟩:∃ HX,HX=H++[.cells [nv q,nv n,v] 29 none false,.cells [nv 0,nv 0,.slice none 0 0] 29 none false]:=⟨_,rfl⟩
  have hX:Pre H HX:=by rw [hHX];exact Pre.new _ _
  have g0:HX[H.length]? = some (.cells [nv q,nv n,v] 29 none false):=by rw [hHX];simp
  have g1:HX[H.length+1]? = some (.cells [nv 0,nv 0,.slice none 0 0] 29 none false):=by rw [hHX];simp
  have hXl:HX.length=H.length+2:=by rw [hHX];simp
  rw [←hHX]
  clear hHX
  refine FZ.mono (over_c Q) ?_
  rintro _ H3 ⟨hp3,b,rfl,hb⟩
  have sf:=qbs (H:=H3++[.cells [nv 0,nv 0,.slice none 0 0] 76 none false]) (bl:=H3.length) (x:=nv p) (y:=nv e) (z:=.slice (some ⟨b,0,none⟩) e e) (c0:=nv 0) (c1:=nv 0) (c2:=.slice none 0 0) (e:=76) (op:=none) rfl rfl rfl
  rw [qb2] at sf
  have hp35:=Pre.new H3 [.cells [nv p,nv e,.slice (some ⟨b,0,none⟩) e e] 76 none false]
  have g05:=(hp3.trans hp35).get g0
  have hmk:8*n≤281474976710656:=by omega
  simp (disch:=omega) only [zA,zB,zC,zD,zF,zG,zH,↓reduceIte,sf,g05,qc8,hmk]
  obtain⟨HY,hHY⟩:∃ HY,HY=H3++[fbx p e b e]:=⟨_,rfl⟩
  have hY:Pre H3 HY:=by rw [hHY];exact Pre.new _ _
  have gf:HY[H3.length]? = some (fbx p e b e):=by rw [hHY];simp
  have hYl:HY.length=H3.length+1:=by rw [hHY];simp
  have e0:∀ y:AB,H3++[.cells [nv p,nv e,.slice (some ⟨b,0,none⟩) e e] 76 none false,y]=HY++[y]:=fun y=>by rw [hHY];simp
  have e1:H3++[AB.cells [nv p,nv e,.slice (some ⟨b,0,none⟩) e e] 76 none false]=HY:=by rw [hHY]
  rw [e0,e1]
  clear hHY sf e0 e1 g05 hp35
  have hXY:=hp3.trans hY
  have g0Y:=hXY.get g0
  have g1Y:=hXY.get g1
  have bY:=hY.get hb
  obtain⟨P,hP⟩:∃ P,P=A.map lpiv:=⟨_,rfl⟩
  have hred:=hA.redTo
  rw [←hP] at hred
  have hPl:P.length=A.length:=by rw [hP,List.length_map]
  have hPg:∀ i,i<A.length→P.getD i 0=lpiv (A.getD i []):=fun i hi=>by rw [hP];exact pivs_get hi
  have hnd:=piv_nodup hred
  have hPn:∀ i,i<P.length→P.getD i 0<n:=fun i hi=>hred.lt i hi
  have hvY:=hv.pre (hX.trans hXY)
  obtain⟨vs,hvs,hvl,hvr⟩:=hvY.open
  have hpvl:∀ k,k<A.length→lpiv (A.getD k [])<(A.getD k []).length:=fun k hk=>by rw [qb5 hA.len hk];exact hA.piv.2 _ (getD_mem hk)
  refine loopV1.nat A.length (fun k i H'=>i=nv k∧H'=HY++[.cells (tab n fun t=>nv (if t∈P.take k then P.idxOf t+1 else 0)) 3 none false]) ⟨rfl,?_⟩ ?_ ?_
  · congr 2
    rw [qhn]
    congr 1
  · rintro k i _ hk ⟨rfl,rfl⟩ J hJ
    have hk':k<vs.length:=by omega
    have hp8:=Pre.new HY [.cells (tab n fun t=>nv (if t∈P.take k then P.idxOf t+1 else 0)) 3 none false]
    obtain⟨vl,vi,vd,_⟩:=(hvs.pre hp8).allV
    rw [hvl] at vl
    have g08:=hp8.get g0Y
    have hrow:=(hvr k hk).pre hp8
    have hpn:lpiv (A.getD k [])<n:=hA.piv.2 _ (getD_mem hk)
    simp (disch:=omega) only [zA,zB,zC,zD,zF,zG,zH,↓reduceIte,g08,vl,hk,vi,vd,hk']
    refine FZ.use (rpivot_c (Q.ok 0) hrow (hpvl k hk) (by rw [qb5 hA.len hk];omega)) ?_
    have hPk:P[k]? = some (lpiv (A.getD k [])):=by
      have:=hPg k hk
      rw [List.getD_eq_getElem?_getD,List.getElem?_eq_getElem (by omega),Option.getD_some] at this
      rw [List.getElem?_eq_getElem (by omega),this]
    have hPk':P.take (k+1)=P.take k++[lpiv (A.getD k [])]:=by
      rw [List.take_add_one,hPk];rfl
    have hix:P.idxOf (lpiv (A.getD k []))=k:=by
      have hkl:k<P.length:=by omega
      have:=hnd.idxOf_getElem k hkl
      rwa [show P[k]=lpiv (A.getD k []) from (List.getElem?_eq_some_iff.1 hPk).2] at this
    have s1:=qnq (H:=HY++[.cells (tab n fun t=>nv (if t∈P.take k then P.idxOf t+1 else 0)) 3 none false]) (bl:=HY.length) (f:=fun t=>nv (if t∈P.take k then P.idxOf t+1 else 0)) (g:=fun t=>nv (if t∈P.take (k+1) then P.idxOf t+1 else 0)) (n:=n) (k:=lpiv (A.getD k [])) (et:=3) (op:=none) (v:=nv (k+1)) (by simp) hpn rfl rfl (by rw [hPk',if_pos (List.mem_append_right _ (List.mem_singleton_self _)),hix]) (fun j hj hjk=>by
      congr 1
      rw [hPk']
      by_cases h:j∈P.take k
      · rw [if_pos h,if_pos (List.mem_append_left _ h)]
      · rw [if_neg h,if_neg (fun h2=>(List.mem_append.1 h2).elim h fun h3=>hjk (List.mem_singleton.1 h3))])
    rw [qb2] at s1
    simp (disch:=omega) only [zA,zB,zC,zD,zF,zG,zH,↓reduceIte,hpn,s1]
    exact hJ _ _ ⟨rfl,rfl⟩
  rintro i _ ⟨rfl,rfl⟩ J1
  rw [show P.take A.length=P by rw [←hPl,List.take_length]]
  obtain⟨HZ,hHZ⟩:∃ HZ,HZ=HY++[.cells (tab n fun t=>nv (if t∈P then P.idxOf t+1 else 0)) 3 none false]:=⟨_,rfl⟩
  have hZ:Pre HY HZ:=by rw [hHZ];exact Pre.new _ _
  have fZ:HZ[HY.length]? = some (.cells (tab n fun t=>nv (if t∈P then P.idxOf t+1 else 0)) 3 none false):=by rw [hHZ];simp
  have lZ:HZ.length=HY.length+1:=by rw [hHZ];simp
  have vlZ:=(hvs.pre hZ).allV.1
  rw [hvl] at vlZ
  have g0Z:=hZ.get g0Y
  have g1Z:=hZ.get g1Y
  have gfZ:=hZ.get gf
  have bZ:=hZ.get bY
  rw [←hHZ]
  clear hHZ
  simp (disch:=omega) only [zA,zB,zC,zD,zF,zG,zH,↓reduceIte,g0Z,vlZ]
  have hvsZ:=hvs.pre hZ
  have hXZ:=hXY.trans hZ
  refine loopV2.nat n (fun k rows i H'=>i=nv k∧Pre HZ H'∧AccR HZ H' rows (evr cd ((freeK P k).map fun j=>qdv n A P j P.length)) 31) ⟨rfl,Pre.new _ _,?_⟩ ?_ ?_
  · have:=AccR.new (H0:=HZ) (H:=HZ) (Nat.le_refl _) (e:=31) (Y:=[])
    exact this
  · rintro j rows i H9 hj ⟨rfl,hp9,hacc⟩ J hJ
    have f9:=hp9.get fZ
    have g09:=hp9.get g0Z
    have gf9:=hp9.get gfZ
    have b9:=hp9.get bZ
    have ld9:=tab_ld f9 hj
    have ix9:qbc (.ixS 1) [.slice (some ⟨HY.length,0,none⟩) n n,nv j]=some (.pointer (some ⟨HY.length,j,none⟩)):=by rw [qg1 hj];simp
    simp (disch:=omega) only [zA,zB,zC,zD,zF,zG,zH,↓reduceIte,g09,hj]
    refine joinV1.via (fun rows' H'=>Pre HZ H'∧AccR HZ H' rows' (evr cd ((freeK P (j+1)).map fun j=>qdv n A P j P.length)) 31) ?_ ?_
    · intro J3 hJ3
      by_cases hjP:j∈P
      · rw [if_pos hjP] at ld9
        have hpos:0<P.idxOf j+1:=by omega
        simp (disch:=omega) only [zA,zB,zC,zD,zF,zG,zH,↓reduceIte,ix9,ld9,hpos]
        refine hJ3 _ _ ⟨hp9,?_⟩
        rw [freeK_succ,if_pos hjP,List.append_nil]
        exact hacc
      · rw [if_neg hjP] at ld9
        simp (disch:=omega) only [zA,zB,zC,zD,zF,zG,zH,↓reduceIte,ix9,ld9,g09]
        refine FZ.use (qkj (by omega)) ?_
        have st0:=st_ev (cd:=cd) (H:=H9++[.cells (evs cd (List.replicate n (Fl.zero:α))) 3 none false]) (bl:=H9.length) (k:=j) (xs:=List.replicate n (Fl.zero:α)) (x:=Fl.one) (t:=3) (op:=none) (by simp) (by simpa using hj)
        rw [qb2,←zeros_ev (Q.ok 0),(Q.ok 0).one] at st0
        simp (disch:=omega) only [zA,zB,zC,zD,zF,zG,zH,↓reduceIte,hj,st0]
        have fZ9:=hp9.get fZ
        refine loopV1.nat n (fun t i H'=>i=nv t∧H'=H9++[.cells (evs cd (wl n A P j t)) 3 none false]) ⟨rfl,rfl⟩ ?_ ?_
        · rintro t i _ ht ⟨rfl,rfl⟩ J4 hJ4
          have hp10:=Pre.new H9 [.cells (evs cd (wl n A P j t)) 3 none false]
          have g010:=hp10.get g09
          have gf10:=hp10.get gf9
          have f10:=hp10.get f9
          have b10:=hp10.get b9
          have ld10:=tab_ld f10 ht
          have ix10:qbc (.ixS 1) [.slice (some ⟨HY.length,0,none⟩) n n,nv t]=some (.pointer (some ⟨HY.length,t,none⟩)):=by rw [qg1 ht];simp
          simp (disch:=omega) only [zA,zB,zC,zD,zF,zG,zH,↓reduceIte,g010,ht]
          refine joinV0.via (fun H'=>H'=H9++[.cells (evs cd (wl n A P j (t+1))) 3 none false]) ?_ ?_
          · intro J5 hJ5
            by_cases htP:t∈P
            · rw [if_pos htP] at ld10
              obtain⟨i0,hi0⟩:∃ i0,i0=P.idxOf t:=⟨_,rfl⟩
              rw [←hi0] at ld10
              have hi0l:i0<P.length:=by rw [hi0];exact List.idxOf_lt_length_of_mem htP
              have hi0A:i0<A.length:=by omega
              have hi0v:i0<vs.length:=by omega
              have hpos:0<i0+1:=by omega
              have sk:xbin .sub 0 (nv (i0+1)) (nv 1)=some (nv i0):=by rw [qkp (by omega) (by omega),Nat.add_sub_cancel]
              obtain⟨_,wi,wd,_⟩:=(hvsZ.pre (hp9.trans hp10)).allV
              have hrow:=(hvr i0 hi0A).pre (hZ.trans (hp9.trans hp10))
              have hxl:=qb5 hA.len hi0A
              obtain⟨_,ri,rd,_⟩:=hrow.all Fl.zero
              have hjx:j<(A.getD i0 []).length:=by omega
              simp only [fbx] at gf10
              simp (disch:=omega) only [zA,zB,zC,zD,zF,zG,zH,↓reduceIte,ix10,ld10,hpos,g010,gf10,sk,wi,wd,hi0v,ri,rd,hjx]
              refine FZ.use ((Q.ok b).rneg _ _ b10) ?_
              have st1:=st_ev (cd:=cd) (H:=H9++[.cells (evs cd (wl n A P j t)) 3 none false]) (bl:=H9.length) (k:=t) (xs:=wl n A P j t) (x:=Fl.neg ((A.getD i0 []).getD j Fl.zero)) (t:=3) (op:=none) (by simp) (by rw [wl_len];exact ht)
              rw [qb2] at st1
              have hst:(wl n A P j t).set t (Fl.neg ((A.getD i0 []).getD j Fl.zero))=wl n A P j (t+1):=by
                conv=>rhs;unfold wl
                rw [if_pos htP,←hi0];rfl
              rw [hst] at st1
              simp (disch:=omega) only [zA,zB,zC,zD,zF,zG,zH,↓reduceIte,ht,st1]
              exact hJ5 _ rfl
            · rw [if_neg htP] at ld10
              simp (disch:=omega) only [zA,zB,zC,zD,zF,zG,zH,↓reduceIte,ix10,ld10]
              refine hJ5 _ ?_
              conv=>rhs;unfold wl
              rw [if_neg htP]
          · rintro _ rfl
            simp (disch:=omega) only [zA,zB,zC,zD,zF,zG,zH,↓reduceIte]
            exact hJ4 _ _ ⟨rfl,rfl⟩
        · rintro i _ ⟨rfl,rfl⟩ J4
          have hp10:=Pre.new H9 [.cells (evs cd (wl n A P j n)) 3 none false]
          have g010:=hp10.get g09
          simp (disch:=omega) only [zA,zB,zC,zD,zF,zG,zH,↓reduceIte,g010]
          rw [wl_full hPn hnd]
          have hp10':=Pre.new H9 [.cells (evs cd (qdv n A P j P.length)) 3 none false]
          have hr:Row (H9++[.cells (evs cd (qdv n A P j P.length)) 3 none false]) (.slice (some ⟨H9.length,0,none⟩) n n) (evs cd (qdv n A P j P.length)):=Row.of (b:=H9.length) (e:=3) (op:=none) (r:=false) (by simp) (by rw [List.length_map,qct]) (Nat.le_refl _)
          have hfk:(freeK P j).length≤j:=by unfold freeK;exact Nat.le_trans (List.length_filter_le _ _) (by simp)
          obtain⟨out',H13,e3,ho',hpp,_⟩:=(hacc.pre hp10').app1 (by_:=24) (hp9.trans hp10').len hr (qb3 _) (by simp;omega) (by simp;omega) (e2:=31)
          simp only [List.append_assoc,List.cons_append,List.nil_append,List.length_append,List.length_cons,List.length_nil,Nat.zero_add] at e3
          have fl:qbr [.slice none 0 0] [(0,1)] [.slice (some ⟨H9.length,0,none⟩) n n]=some [.slice (some ⟨H9.length,0,none⟩) n n]:=rfl
          simp (disch:=omega) only [zA,zB,zC,zD,zF,zG,zH,↓reduceIte,fl,e3]
          refine hJ3 _ _ ⟨hpp (hp9.trans hp10'),?_⟩
          rw [freeK_succ,if_neg hjP,List.map_append,List.map_singleton]
          simpa [evr] using ho'
    · rintro rows' H' ⟨hp',ha'⟩
      simp (disch:=omega) only [zA,zB,zC,zD,zF,zG,zH,↓reduceIte]
      exact hJ _ _ _ ⟨rfl,hp',ha'⟩
  · rintro rows i H9 ⟨rfl,hp9,hacc⟩ J
    have g09:=hp9.get g0Z
    have gf9:=hp9.get gfZ
    have b9:=hp9.get bZ
    have g19:=hp9.get g1Z
    simp only [fbx] at gf9
    simp (disch:=omega) only [zA,zB,zC,zD,zF,zG,zH,↓reduceIte,g09,gf9]
    have eN:(freeK P n).map (fun j=>qdv n A P j P.length)=qfg n A P:=rfl
    rw [eN] at hacc
    have hfn:(qfg n A P).length≤n:=by
      unfold qfg qgx
      rw [List.length_map];exact Nat.le_trans (List.length_filter_le _ _) (by simp)
    refine FZ.mono (qk4 (Q.ok b) b9 hacc.rowR (qm5 n A P) (by omega) (by omega) hn0) ?_
    rintro w H10 ⟨hp10,hw⟩
    rw [qmb hred hA.len (fun _=>Iff.rfl)] at hw
    have g010:=hp10.get g09
    have g110:=hp10.get g19
    have st:=qbs (H:=H10) (bl:=H.length+1) (x:=nv q) (y:=nv n) (z:=w) (c0:=nv 0) (c1:=nv 0) (c2:=.slice none 0 0) (e:=29) (op:=none) rfl rfl hw.one
    have g11:(H10.set (H.length+1) (AB.cells [nv q,nv n,w] 29 none false))[H.length+1]? = some (.cells [nv q,nv n,w] 29 none false):=List.getElem?_set_self (qbx g110)
    have hf:=codv_fill (q:=q) (n:=n) hw.isSl
    simp (disch:=omega) only [zA,zB,zC,zD,zF,zG,zH,↓reduceIte,g010,hf,g110,st,g11]
    have hl:=(hXZ.trans hp9).len
    exact⟨(hX.trans (hXZ.trans (hp9.trans hp10))).set (by omega) _,w,rfl,(hw.setLow (by omega)).mono (by omega)⟩
end
end Go.Sim

namespace Go.Sim
open Go Go.Proofs
abbrev iv (z:Int):Value:=.int .i64 z
theorem perm_of:∀ {l m:List Nat},l.Nodup→m.Nodup→l.length=m.length→(∀ x∈l,x∈m)→l.Perm m
  | [],m,_,_,h,_=>by rw [List.eq_nil_of_length_eq_zero h.symm]
  | a :: l,m,hl,hm,h,hs=>by
    have ha:=hs a (by simp)
    rw [List.nodup_cons] at hl
    refine List.Perm.trans (List.Perm.cons a ?_) (List.perm_cons_erase ha).symm
    refine perm_of hl.2 (hm.erase a) (by rw [List.length_erase_of_mem ha,←h];simp) fun x hx=>?_
    exact (List.mem_erase_of_ne (fun e=>hl.1 (by rw [←e];exact hx))).2 (hs x (by simp [hx]))
theorem pm_of {n:Nat} {g:List Nat} (h1:g.length=n) (h2:∀ x∈g,x<n) (h3:g.Nodup):Pm n g:=
  perm_of h3 List.nodup_range (by rw [List.length_range,h1]) fun x hx=>List.mem_range.2 (h2 x hx)
def PmI (n:Nat) (gs:List Int):Prop:=∃ g:List Nat,gs=g.map Int.ofNat∧Pm n g
theorem PmI.len {n:Nat} {gs:List Int} (h:PmI n gs):gs.length=n:=by
  obtain⟨g,rfl,hg⟩:=h
  rw [List.length_map,hg.len]
theorem PmI.at_ {n k:Nat} {gs:List Int} (h:PmI n gs) (hk:k<n):0≤gs.getD k 0∧gs.getD k 0<n:=by
  obtain⟨g,rfl,hg⟩:=h
  have hl:=hg.len
  have h1:=hg.lt hk
  have e:(g.map Int.ofNat).getD k 0=((g.getD k 0:Nat):Int):=by
    simp [List.getD_eq_getElem?_getD,List.getElem?_eq_getElem (show k<g.length by omega)]
  rw [e];omega
theorem PmI.ne {n j k:Nat} {gs:List Int} (h:PmI n gs) (hj:j<k) (hk:k<n):gs.getD j 0≠gs.getD k 0:=by
  obtain⟨g,rfl,hg⟩:=h
  have hl:=hg.len
  have e:∀ k,k<n→(g.map Int.ofNat).getD k 0=((g.getD k 0:Nat):Int):=fun k hk=>by
    simp [List.getD_eq_getElem?_getD,List.getElem?_eq_getElem (show k<g.length by omega)]
  rw [e j (by omega),e k hk]
  intro h
  have:=hg.inj (by omega) hk (by omega:g.getD j 0=g.getD k 0)
  omega
def PmT (n k:Nat) (gs:List Int) (g:List Nat):Prop:=gs.take k=g.map Int.ofNat∧(∀ x∈g,x<n)∧g.Nodup
theorem PmT.step {n k u:Nat} {gs:List Int} {g:List Nat} (h:PmT n k gs g) (hk:k<gs.length) (hu:gs.getD k 0=(u:Int)) (hun:u<n) (hne:u∉g):PmT n (k+1) gs (g++[u]):=by
  refine⟨?_,fun x hx=>?_,?_⟩
  · rw [List.take_succ_eq_append_getElem hk,h.1,List.map_append,List.map_singleton]
    rw [List.getD_eq_getElem?_getD,List.getElem?_eq_getElem hk,Option.getD_some] at hu
    rw [hu];rfl
  · rcases List.mem_append.1 hx with h1|h1
    · exact h.2.1 x h1
    · rw [List.mem_singleton.1 h1];exact hun
  · rw [List.nodup_append]
    exact⟨h.2.2,by simp,fun a ha b hb e=>hne (by rw [←List.mem_singleton.1 hb,←e];exact ha)⟩
theorem PmT.get {n k j:Nat} {gs:List Int} {g:List Nat} (h:PmT n k gs g) (hk:k≤gs.length) (hj:j<k):gs.getD j 0=((g.getD j 0:Nat):Int)∧j<g.length:=by
  have hl:=congrArg List.length h.1
  rw [List.length_take,List.length_map] at hl
  have hjl:j<g.length:=by omega
  have h1:(gs.take k).getD j 0=(g.map Int.ofNat).getD j 0:=by rw [h.1]
  rw [List.getD_eq_getElem?_getD,List.getElem?_take_of_lt hj,←List.getD_eq_getElem?_getD] at h1
  refine⟨h1.trans ?_,hjl⟩
  simp [List.getD_eq_getElem?_getD,List.getElem?_eq_getElem hjl]
theorem PmT.done {n:Nat} {gs:List Int} {g:List Nat} (h:PmT n n gs g) (hl:gs.length=n):PmI n gs:=by
  have h1:=h.1
  rw [List.take_of_length_le (by omega)] at h1
  exact⟨g,h1,pm_of (by have:=congrArg List.length h1;rw [List.length_map,hl] at this;exact this.symm) h.2.1 h.2.2⟩
section
variable {H:AH}
theorem perm_c {gv:Value} {gs:List Int} {n:Nat} (hv:Row H gv (gs.map iv)) (hl:gs.length≤1000) (hn:n≤1000):FN Tryz.prog 77 [gv,nv n] H (fun r H'=>H'=H∧∃ bo,r=.bool bo∧(bo=true↔PmI n gs)):=by
  refine g77_of ?_
  unfold g77
  obtain⟨vl,vi,vd,_⟩:=hv.all 0
  by_cases hln:gs.length=n
  case neg =>
    have hln':¬gs.length=n:=hln
    simp (disch:=omega) only [zA,zB,zC,zD,zF,zG,zH,↓reduceIte,vl,hln]
    exact⟨false,rfl,fun h=>(by cases h),fun h=>absurd h.len hln'⟩
  simp (disch:=omega) only [zA,zB,zC,zD,zF,zG,zH,↓reduceIte,vl,hln]
  refine loopV1.nat n (fun k i H'=>i=nv k∧H'=H∧∃ g,PmT n k gs g) ⟨rfl,rfl,[],by simp,by simp,List.nodup_nil⟩ ?_ ?_
  · rintro k i H hk ⟨rfl,rfl,g,hg⟩ J hJ
    have hkl:k<gs.length:=by omega
    have hvd:=vd k hkl
    by_cases hz:gs.getD k 0<0
    · have l1:xbin .lss 0 (iv (gs.getD k 0)) (nv 0)=some (.bool true):=by rw [qh8];simp only [Int.ofNat_zero];rw [decide_eq_true hz]
      simp (disch:=omega) only [zA,zB,zC,zD,zF,zG,zH,↓reduceIte,hk,vi,hkl,vd,l1]
      exact⟨false,rfl,fun h=>(by cases h),fun h=>by have:=(h.at_ hk).1;omega⟩
    · obtain⟨u,hu⟩:∃ u:Nat,gs.getD k 0=u:=⟨(gs.getD k 0).toNat,by omega⟩
      have vd':qbd none H [qfj gv k]=some (nv u):=by rw [hvd,hu]
      have h0:¬u<0:=by omega
      by_cases hun:u≥n
      · simp (disch:=omega) only [zA,zB,zC,zD,zF,zG,zH,↓reduceIte,hk,vi,hkl,vd',h0,hun]
        exact⟨false,rfl,fun h=>(by cases h),fun h=>by have:=(h.at_ hk).2;omega⟩
      · simp (disch:=omega) only [zA,zB,zC,zD,zF,zG,zH,↓reduceIte,hk,vi,hkl,vd',h0,hun]
        refine loopV1.nat k (fun j i H'=>i=nv j∧H'=H∧∀ t,t<j→g.getD t 0≠u) ⟨rfl,rfl,fun t ht=>absurd ht (Nat.not_lt_zero _)⟩ ?_ ?_
        · rintro j i H hj ⟨rfl,rfl,hne⟩ J2 hJ2
          have hjl:j<gs.length:=by omega
          obtain⟨hgj,_⟩:=hg.get (by omega) hj
          have vdj:qbd none H [qfj gv j]=some (nv (g.getD j 0)):=by rw [vd j hjl,hgj]
          by_cases he:g.getD j 0=u
          · simp (disch:=omega) only [zA,zB,zC,zD,zF,zG,zH,↓reduceIte,hj,vi,hkl,hjl,vdj,vd',he]
            exact⟨false,rfl,fun h=>(by cases h),fun h=>absurd (by rw [hgj,hu,he]) (h.ne hj hk)⟩
          · have he':=he
            simp (disch:=omega) only [zA,zB,zC,zD,zF,zG,zH,↓reduceIte,hj,vi,hkl,hjl,vdj,vd',he]
            exact hJ2 _ _ ⟨rfl,rfl,fun t ht=>by
              by_cases h:t=j
              · rw [h];exact he'
              · exact hne t (by omega)⟩
        · rintro i H ⟨rfl,rfl,hne⟩ J2
          simp (disch:=omega) only [zA,zB,zC,zD,zF,zG,zH,↓reduceIte]
          refine hJ _ _ ⟨rfl,rfl,g++[u],hg.step hkl hu (by omega) fun hm=>?_⟩
          obtain⟨t,ht,e⟩:=List.mem_iff_getElem.1 hm
          have hgl:=congrArg List.length hg.1
          rw [List.length_take,List.length_map] at hgl
          exact hne t (by omega) (by rw [List.getD_eq_getElem?_getD,List.getElem?_eq_getElem ht];exact e)
  · rintro i H ⟨rfl,rfl,g,hg⟩ J
    simp (disch:=omega) only [zA,zB,zC,zD,zF,zG,zH,↓reduceIte]
    exact⟨true,rfl,fun _=>hg.done hln,fun _=>rfl⟩
end
end Go.Sim

namespace Go.Sim
open Go Go.Proofs
section
variable {H:AH} {q n:Nat}
theorem turn_e {v gv:Value} {gs:List Int} (ho:one v=true) (hgv:Row H gv (gs.map iv)) (hl:gs.length≤1000) (hn:n≤1000) (hP:¬PmI n gs) :
    FN Tryz.prog 76 [codv q n v,gv] H (RetP 1 H):=by
  refine g76_of ?_
  unfold g76
  have hmk:1*n≤281474976710656:=by omega
  have hgc:=hgv.cells
  obtain⟨gl,_,_,_⟩:=hgv.all 0
  simp (disch:=omega) only [zA,zB,zC,zD,zF,zG,zH,↓reduceIte,hgc,gl,hmk,xnew_makeB]
  obtain⟨HX,hHX⟩:∃ HX,HX=H++[.cells [nv q,nv n,v] 29 none false,.cells [gv] 31 none false,.cells [nv 0,nv 0,.slice none 0 0] 29 none false]:=⟨_,rfl⟩
  have hX:Pre H HX:=by rw [hHX];exact Pre.new _ _
  have g0:HX[H.length]? = some (.cells [nv q,nv n,v] 29 none false):=by rw [hHX];simp
  have g1:HX[H.length+1]? = some (.cells [gv] 31 none false):=by rw [hHX];simp
  have g2:HX[H.length+2]? = some (.cells [nv 0,nv 0,.slice none 0 0] 29 none false):=by rw [hHX];simp
  have hXl:HX.length=H.length+3:=by rw [hHX];simp
  have e0:∀ y:AB,H++[.cells [nv q,nv n,v] 29 none false,.cells [gv] 31 none false,.cells [nv 0,nv 0,.slice none 0 0] 29 none false,y]=HX++[y]:=fun y=>by rw [hHX];simp
  rw [e0]
  clear hHX e0
  refine loopV1.nat gs.length (fun k i H'=>i=nv k∧∃ g,PmT n k gs g∧H'=HX++[.cells (tab n fun t=>.bool (decide (t∈g))) 4 none false]) ⟨rfl,[],⟨by simp,by simp,List.nodup_nil⟩,?_⟩ ?_ ?_
  · congr 3
  · rintro k i _ hk ⟨rfl,g,hg,rfl⟩ J hJ
    have hp:=Pre.new HX [.cells (tab n fun t=>.bool (decide (t∈g))) 4 none false]
    have hc0:=hp.get g0
    obtain⟨_,ki,kd,_⟩:=(hgv.pre (hX.trans hp)).all 0
    have hkd:=kd k hk
    by_cases hz:gs.getD k 0<0
    · have l1:xbin .lss 0 (iv (gs.getD k 0)) (nv 0)=some (.bool true):=by rw [qh8];simp only [Int.ofNat_zero];rw [decide_eq_true hz]
      simp (disch:=omega) only [zA,zB,zC,zD,zF,zG,zH,↓reduceIte,hk,ki,hkd,l1]
      refine FZ.mono qb9 ?_
      rintro _ H4 ⟨rfl,hp4⟩
      have g4:H4[H.length+2]? = some (.cells [nv 0,nv 0,.slice none 0 0] 29 none false):=hp4.get (hp.get g2)
      obtain⟨H5,s5,g5,pr⟩:=refE g4
      simp (disch:=omega) only [zA,zB,zC,zD,zF,zG,zH,↓reduceIte,g4,s5,g5]
      exact⟨rfl,pr H (by omega) (hX.trans (hp.trans hp4))⟩
    · obtain⟨u,hu⟩:∃ u:Nat,gs.getD k 0=u:=⟨(gs.getD k 0).toNat,by omega⟩
      have kd':qbd none (HX++[.cells (tab n fun t=>.bool (decide (t∈g))) 4 none false]) [qfj gv k]=some (nv u):=by rw [hkd,hu]
      have h0:¬u<0:=by omega
      by_cases hun:u≥n
      · simp (disch:=omega) only [zA,zB,zC,zD,zF,zG,zH,↓reduceIte,hk,ki,kd',h0,hun,hc0]
        refine FZ.mono qb9 ?_
        rintro _ H4 ⟨rfl,hp4⟩
        have g4:H4[H.length+2]? = some (.cells [nv 0,nv 0,.slice none 0 0] 29 none false):=hp4.get (hp.get g2)
        obtain⟨H5,s5,g5,pr⟩:=refE g4
        simp (disch:=omega) only [zA,zB,zC,zD,zF,zG,zH,↓reduceIte,g4,s5,g5]
        exact⟨rfl,pr H (by omega) (hX.trans (hp.trans hp4))⟩
      · have hun2:u<n:=by omega
        have hX3:H.length+(1+1+1)=HX.length:=by omega
        have ld:=tab_ld2 (f:=fun t=>.bool (decide (t∈g))) (et:=4) (op:=none) (ro:=false) hun2
        by_cases hug:u∈g
        · rw [decide_eq_true hug] at ld
          simp (disch:=omega) only [zA,zB,zC,zD,zF,zG,zH,↓reduceIte,hk,ki,kd',h0,hun,hc0,hun2,hX3,ld]
          refine FZ.mono qb9 ?_
          rintro _ H4 ⟨rfl,hp4⟩
          have g4:H4[H.length+2]? = some (.cells [nv 0,nv 0,.slice none 0 0] 29 none false):=hp4.get (hp.get g2)
          obtain⟨H5,s5,g5,pr⟩:=refE g4
          simp (disch:=omega) only [zA,zB,zC,zD,zF,zG,zH,↓reduceIte,g4,s5,g5]
          exact⟨rfl,pr H (by omega) (hX.trans (hp.trans hp4))⟩
        · rw [decide_eq_false hug] at ld
          have st:=qnq (H:=HX++[.cells (tab n fun t=>.bool (decide (t∈g))) 4 none false]) (bl:=HX.length) (k:=u) (v:=.bool true) (f:=fun t=>.bool (decide (t∈g))) (g:=fun t=>.bool (decide (t∈g++[u]))) (et:=4) (op:=none) (by simp) hun2 rfl rfl (by rw [decide_eq_true (by simp)]) (fun j hj hne=>by
            congr 1
            rw [decide_eq_decide]
            simp [hne])
          rw [qb2] at st
          simp (disch:=omega) only [zA,zB,zC,zD,zF,zG,zH,↓reduceIte,hk,ki,kd',h0,hun,hc0,hun2,hX3,ld,st]
          exact hJ _ _ ⟨rfl,g++[u],hg.step hk hu hun2 hug,rfl⟩
  · rintro i _ ⟨rfl,g,hg,rfl⟩ J
    have hp:=Pre.new HX [.cells (tab n fun t=>.bool (decide (t∈g))) 4 none false]
    have hc0:=hp.get g0
    have hc1:=hp.get g1
    obtain⟨gl5,_,_,_⟩:=(hgv.pre (hX.trans hp)).all 0
    have hne:¬gs.length=n:=fun h=>hP (by rw [h] at hg;exact hg.done h)
    simp (disch:=omega) only [zA,zB,zC,zD,zF,zG,zH,↓reduceIte,hc0,hc1,gl5,hne]
    refine FZ.mono qb9 ?_
    rintro _ H4 ⟨rfl,hp4⟩
    have g4:H4[H.length+2]? = some (.cells [nv 0,nv 0,.slice none 0 0] 29 none false):=hp4.get (hp.get g2)
    obtain⟨H5,s5,g5,pr⟩:=refE g4
    simp (disch:=omega) only [zA,zB,zC,zD,zF,zG,zH,↓reduceIte,g4,s5,g5]
    exact⟨rfl,pr H (by omega) (hX.trans (hp.trans hp4))⟩
end
end Go.Sim

namespace Go.Sim
open Go Go.Proofs
section
variable {H:AH} {q n:Nat}
theorem turned_e {v gv:Value} {gs:List Int} (hv:one v=true) (hgv:Row H gv (gs.map iv)) (hl:gs.length≤1000) (hn:n≤1000) (hP:¬PmI n gs) :
    FN Tryz.prog 30 [codv q n v,gv] H (RetF 1 H):=by
  refine g30_of ?_
  unfold g30
  have hp:=Pre.new H [.cells [nv q,nv n,v] 29 none false,.cells [nv 0,nv 0,.slice none 0 0,nv 0] 37 none false]
  simp (disch:=omega) only [zA,zB,zC,zD,zF,zG,zH,↓reduceIte,hv]
  refine FZ.mono (turn_e hv (hgv.pre hp) hl hn hP) ?_
  rintro _ H3 ⟨rfl,hp3⟩
  obtain⟨s4,g4,H5,s5,g5,pr⟩:=qpm (k:=H.length+1) (er:=1) (hp3.get (by simp))
  have f4:=qb7 (q:=0) (n:=0) (er:=1) (w:=.slice none 0 0) rfl
  simp (disch:=omega) only [zA,zB,zC,zD,zF,zG,zH,↓reduceIte,s4,g4,f4,s5,g5]
  exact⟨rfl,pr H (by omega) (hp.trans hp3)⟩
theorem turnIn_e {v gv:Value} {gs:List Int} (hv:one v=true) (hgv:Row H gv (gs.map iv)) (hl:gs.length≤1000) (hn:n≤1000) (hP:¬PmI n gs) :
    FN Tryz.prog 31 [codv q n v,gv] H (RetF 1 H):=by
  refine g31_of ?_
  unfold g31
  have s:=qgc (H0:=H++[.cells [nv q,nv n,v] 29 none false]) (k:=H.length+1) (er:=1) (by simp)
  simp only [List.append_assoc,List.cons_append,List.nil_append] at s
  have hX:=Pre.new H [.cells [nv q,nv n,v] 29 none false,.cells [nv 0,nv 0,.slice none 0 0,nv 0] 37 none false]
  have hX2:=Pre.new H [.cells [nv q,nv n,v] 29 none false,.cells [nv 0,nv 0,.slice none 0 0,nv 1] 37 none false]
  simp (disch:=omega) only [zA,zB,zC,zD,zF,zG,zH,↓reduceIte,hv]
  refine FZ.mono (perm_c (hgv.pre hX) hl hn) ?_
  rintro _ H3 ⟨rfl,bo,rfl,hb⟩
  have hbo:bo=false:=by
    cases bo
    · rfl
    · exact absurd (hb.1 rfl) hP
  subst hbo
  simp (disch:=(first|omega|(simp only [qbj]<;>omega)|(simp only [qbg];done)|rfl)) only [zA,zB,zC,zD,zF,zG,zH,Nat.reduceEqDiff,Nat.reduceLT,Nat.reduceLeDiff,↓reduceIte,Bool.not_false,s]
  exact⟨rfl,hX2⟩
end
section
variable {α:Type} [Fl α] [DecidableEq α] {cd:α→Nat} {p e b c q:Nat} {blk:AB} {H:AH}
theorem turnIn_c (Q:FQ α cd p e q blk) {v gv:Value} {n:Nat} {g:List Nat} {G:List (List α)} (hv:RowR H v (evr cd G)) (hgv:Row H gv (g.map nv)) (hg:Pm n g) (hl:∀ x∈G,x.length=n) (hG:G.length≤400) (hn:n≤1000) (hn0:0<n) :
    FN Tryz.prog 31 [codv q n v,gv] H (RetG cd q n (qbk (G.map (qm7 n g))) H):=by
  refine g31_of ?_
  unfold g31
  have ho:=hv.one'
  have hgl:=hg.len
  simp (disch:=omega) only [zA,zB,zC,zD,zF,zG,zH,↓reduceIte,ho]
  have hX0:=Pre.new H [.cells [nv q,nv n,v] 29 none false,.cells [nv 0,nv 0,.slice none 0 0,nv 0] 37 none false]
  have hgi:Row H gv ((g.map Int.ofNat).map iv):=by rw [List.map_map];exact hgv
  refine FZ.mono (perm_c (hgi.pre hX0) (by rw [List.length_map];omega) hn) ?_
  rintro _ H3 ⟨rfl,bo,rfl,hb⟩
  have hbo:bo=true:=hb.2 ⟨g,rfl,hg⟩
  subst hbo
  simp (disch:=omega) only [zA,zB,zC,zD,zF,zG,zH,↓reduceIte,Bool.not_true]
  obtain⟨HX,hHX⟩:∃ HX,HX=H++[.cells [nv q,nv n,v] 29 none false,.cells [nv 0,nv 0,.slice none 0 0,nv 0] 37 none false]:=⟨_,rfl⟩
  have hX:Pre H HX:=by rw [hHX];exact Pre.new _ _
  have g0:HX[H.length]? = some (.cells [nv q,nv n,v] 29 none false):=by rw [hHX];simp
  have g1:HX[H.length+1]? = some (.cells [nv 0,nv 0,.slice none 0 0,nv 0] 37 none false):=by rw [hHX];simp
  have hXl:HX.length=H.length+2:=by rw [hHX];simp
  have e0:H++[.cells [nv q,nv n,v] 29 none false,.cells [nv 0,nv 0,.slice none 0 0,nv 0] 37 none false,.cells [] 31 none false]=HX++[.cells [] 31 none false]:=by rw [hHX];simp
  rw [e0]
  clear hHX e0
  refine loopV2.nat G.length (fun k out j H'=>j=nv k∧Pre HX H'∧AccR HX H' out (evr cd ((G.map (qm7 n g)).take k)) 31) ⟨rfl,Pre.new _ _,?_⟩ ?_ ?_
  · have:=AccR.new (H0:=HX) (H:=HX) (Nat.le_refl _) (e:=31) (Y:=[])
    rw [hXl] at this
    exact this
  · rintro k out j H4 hk ⟨rfl,hp4,ho4⟩ J hJ
    have g4:=hp4.get g0
    have hv4:=hv.pre (hX.trans hp4)
    obtain⟨vs,hvs,hvl,hvr⟩:=hv4.open
    obtain⟨vl,vi,vd,_⟩:=hvs.allV
    rw [hvl] at vl
    have hk1:k<vs.length:=by omega
    simp (disch:=omega) only [zA,zB,zC,zD,zF,zG,zH,↓reduceIte,g4,vl,hk,hk1,vi,vd]
    refine FZ.mono (moved_c (Q.ok 0).zero (hgv.pre (hX.trans hp4)) hg (hvr k hk) (hl _ (getD_mem hk)) hn) ?_
    rintro r7 H7 ⟨hp47,hr7⟩
    have hkl:k<(G.map (qm7 n g)).length:=by rw [List.length_map];exact hk
    obtain⟨out',H9,e1,ho',hp',_⟩:=(ho4.pre hp47).app1 (by_:=24) (hp4.trans hp47).len hr7 (qb3 _) (by simp;omega) (by simp;omega) (e2:=31)
    simp (disch:=(first|omega|(simp only [qbj]<;>omega)|(simp only [qbg];done)|rfl)) only [zA,zB,zC,zD,zF,zG,zH,Nat.reduceEqDiff,Nat.reduceLT,Nat.reduceLeDiff,↓reduceIte,hr7.fill,e1]
    refine hJ _ _ _ ⟨rfl,hp' (hp4.trans hp47),?_⟩
    rw [qhb hkl,qf2 hk]
    exact ho'
  · rintro out j H4 ⟨rfl,hp4,ho4⟩ J
    have g4:=hp4.get g0
    have hv4:=hv.pre (hX.trans hp4)
    have vl:=qhj hv4
    simp (disch:=omega) only [zA,zB,zC,zD,zF,zG,zH,↓reduceIte,g4,vl]
    rw [List.take_of_length_le (by rw [List.length_map];exact Nat.le_refl _)] at ho4
    refine FZ.mono (qkz Q ho4.rowR ((LM.pick n n (fun j=>g.idxOf j)).width hl) (by rw [List.length_map];exact hG) (by omega) (by omega)) ?_
    rintro _ H10 ⟨hp10,w,rfl,hw⟩
    obtain⟨H11,st,g11,hp11,hw11⟩:=qmm (H0:=H) (H1:=H10) (i:=H.length+1) (q:=q) (n:=n) (er:=0) ((hp4.trans hp10).get g1) hw (by have:=hp4.len;omega) (by omega) (hX.trans (hp4.trans hp10))
    have g10:=(hp4.trans hp10).get g1
    simp (disch:=omega) only [zA,zB,zC,zD,zF,zG,zH,↓reduceIte,g10,st,g11]
    exact⟨hp11,w,rfl,hw11.mono (by have:=(hX.trans hp4).len;omega)⟩
theorem shIn_c (Q:FQ α cd p e q blk) {v:Value} {n i:Nat} {A:List (List α)} (hv:RowR H v (evr cd A)) (hA:LRed n A) (hn:n≤24) (hn2:2≤n) (hi:i<n) :
    FN Tryz.prog 21 [codv q n v,nv i] H (RetG cd q (n-1) (qbk ((qf0 (fun v=>v i) A).map (pick (n-1) (qc0 i)))) H):=by
  refine g21_of ?_
  unfold g21
  have ho:=hv.one'
  simp (disch:=omega) only [zA,zB,zC,zD,zF,zG,zH,↓reduceIte,ho]
  have hX:=Pre.new H [.cells [nv q,nv n,v] 29 none false,.cells [nv 0,nv 0,.slice none 0 0,nv 0] 37 none false]
  refine FZ.mono (qkg Q (hv.pre hX) hA hn (by omega)) ?_
  rintro _ H3 ⟨hp3,w,rfl,hw⟩
  have hD:=qqg hA
  have hDl:=hD.le
  refine FZ.mono (punIn_c Q hw.rowR hD.len (by omega) (by omega) hn2 hi) ?_
  rintro _ H4 ⟨hp4,w4,rfl,hw4⟩
  have s5:=qcj (H:=H4++[.cells [nv 0,nv 0,.slice none 0 0,nv 0] 37 none false]) (bl:=H4.length) (x:=nv q) (y:=nv (n-1)) (z:=w4) (u:=nv 0) (c0:=nv 0) (c1:=nv 0) (c2:=.slice none 0 0) (c3:=nv 0) (e:=37) (op:=none) rfl rfl hw4.one rfl
  rw [qb2] at s5
  have hp5:=Pre.new H4 [.cells [nv q,nv (n-1),w4,nv 0] 37 none false]
  simp (disch:=omega) only [zA,zB,zC,zD,zF,zG,zH,↓reduceIte,s5]
  have hPr:=((Cd.self hD).punct hi).red
  refine FZ.mono (qkg Q (hw4.rowR.pre hp5) hPr (by omega) (by omega)) ?_
  rintro _ H8 ⟨hp8,w8,rfl,hw8⟩
  have hdd:=dual_punct hD hi
  rw [dual_dual hA] at hdd
  rw [←hdd] at hw8
  have hp38:=hp3.trans (hp4.trans (hp5.trans hp8))
  obtain⟨H9,st,g9,hp9,hw9⟩:=qmm (H0:=H) (H1:=H8) (i:=H.length+1) (q:=q) (n:=n-1) (er:=0) (hp38.get (by simp)) hw8 (by have:=(hp3.trans (hp4.trans hp5)).len;simp at this ⊢;omega) (by omega) (hX.trans hp38)
  have g8:H8[H.length+1]? = some (.cells [nv 0,nv 0,.slice none 0 0,nv 0] 37 none false):=hp38.get (by simp)
  have f8:=qr5 (q:=q) (n:=n-1) hw8.isSl
  simp (disch:=omega) only [zA,zB,zC,zD,zF,zG,zH,↓reduceIte,f8,g8,st,g9]
  exact⟨hp9,w8,rfl,hw9.mono (by have:=(hX.trans (hp3.trans (hp4.trans hp5))).len;omega)⟩
theorem shIn_e (Q:FQ α cd p e q blk) {v:Value} {n i:Nat} {A:List (List α)} (hv:RowR H v (evr cd A)) (hA:LRed n A) (hn:n≤24) (hn0:1≤n) (h:n≤i∨n<2) :
    FN Tryz.prog 21 [codv q n v,nv i] H (RetF 1 H):=by
  refine g21_of ?_
  unfold g21
  have ho:=hv.one'
  simp (disch:=omega) only [zA,zB,zC,zD,zF,zG,zH,↓reduceIte,ho]
  have hX:=Pre.new H [.cells [nv q,nv n,v] 29 none false,.cells [nv 0,nv 0,.slice none 0 0,nv 0] 37 none false]
  refine FZ.mono (qkg Q (hv.pre hX) hA hn (by omega)) ?_
  rintro _ H3 ⟨hp3,w,rfl,hw⟩
  refine FZ.mono (punIn_e hw.one h) ?_
  rintro _ H4 ⟨rfl,hp4⟩
  have s5:=qgc (H0:=H4) (k:=H4.length) (er:=1) rfl
  have hp5:=Pre.new H4 [.cells [nv 0,nv 0,.slice none 0 0,nv 1] 37 none false]
  have g5:(H4++[AB.cells [nv 0,nv 0,.slice none 0 0,nv 1] 37 none false])[H.length+1]? = some (.cells [nv 0,nv 0,.slice none 0 0,nv 0] 37 none false):=(hp3.trans (hp4.trans hp5)).get (by simp)
  have s6:=qcj (H:=H4++[.cells [nv 0,nv 0,.slice none 0 0,nv 1] 37 none false]) (bl:=H.length+1) (x:=nv 0) (y:=nv 0) (z:=.slice none 0 0) (u:=nv 1) (c0:=nv 0) (c1:=nv 0) (c2:=.slice none 0 0) (c3:=nv 0) (e:=37) (op:=none) rfl rfl rfl rfl
  have g6:((H4++[AB.cells [nv 0,nv 0,.slice none 0 0,nv 1] 37 none false]).set (H.length+1) (AB.cells [nv 0,nv 0,.slice none 0 0,nv 1] 37 none false))[H.length+1]? = some (.cells [nv 0,nv 0,.slice none 0 0,nv 1] 37 none false):=List.getElem?_set_self (qbx g5)
  simp (disch:=omega) only [zA,zB,zC,zD,zF,zG,zH,Nat.reduceEqDiff,Nat.reduceLT,Nat.reduceLeDiff,↓reduceIte,s5,g5,s6,g6]
  exact⟨rfl,(hX.trans (hp3.trans (hp4.trans hp5))).set (by omega) _⟩
theorem shIn_m (Q:FQ α cd p e q blk) {v:Value} {n:Nat} {A:List (List α)} (hv:RowR H v (evr cd A)) (hA:LRed n A) (hn:n≤24) (hn0:1≤n) :
    FN Tryz.prog 21 [codv q n v,.int .i64 (-1)] H (RetF 1 H):=by
  refine g21_of ?_
  unfold g21
  have ho:=hv.one'
  simp (disch:=omega) only [zA,zB,zC,zD,zF,zG,zH,↓reduceIte,ho]
  have hX:=Pre.new H [.cells [nv q,nv n,v] 29 none false,.cells [nv 0,nv 0,.slice none 0 0,nv 0] 37 none false]
  refine FZ.mono (qkg Q (hv.pre hX) hA hn (by omega)) ?_
  rintro _ H3 ⟨hp3,w,rfl,hw⟩
  refine FZ.mono (punIn_m hw.one) ?_
  rintro _ H4 ⟨rfl,hp4⟩
  have s5:=qgc (H0:=H4) (k:=H4.length) (er:=1) rfl
  have hp5:=Pre.new H4 [.cells [nv 0,nv 0,.slice none 0 0,nv 1] 37 none false]
  have g5:(H4++[AB.cells [nv 0,nv 0,.slice none 0 0,nv 1] 37 none false])[H.length+1]? = some (.cells [nv 0,nv 0,.slice none 0 0,nv 0] 37 none false):=(hp3.trans (hp4.trans hp5)).get (by simp)
  have s6:=qcj (H:=H4++[.cells [nv 0,nv 0,.slice none 0 0,nv 1] 37 none false]) (bl:=H.length+1) (x:=nv 0) (y:=nv 0) (z:=.slice none 0 0) (u:=nv 1) (c0:=nv 0) (c1:=nv 0) (c2:=.slice none 0 0) (c3:=nv 0) (e:=37) (op:=none) rfl rfl rfl rfl
  have g6:((H4++[AB.cells [nv 0,nv 0,.slice none 0 0,nv 1] 37 none false]).set (H.length+1) (AB.cells [nv 0,nv 0,.slice none 0 0,nv 1] 37 none false))[H.length+1]? = some (.cells [nv 0,nv 0,.slice none 0 0,nv 1] 37 none false):=List.getElem?_set_self (qbx g5)
  simp (disch:=omega) only [zA,zB,zC,zD,zF,zG,zH,Nat.reduceEqDiff,Nat.reduceLT,Nat.reduceLeDiff,↓reduceIte,s5,g5,s6,g6]
  exact⟨rfl,(hX.trans (hp3.trans (hp4.trans hp5))).set (by omega) _⟩
end
end Go.Sim

namespace Go.Sim
open Go Go.Proofs
section
variable {α:Type} [Fl α] [DecidableEq α] {cd:α→Nat} {p e b c q:Nat} {blk:AB} {H:AH}
theorem even_dual {n:Nat} {A:List (List α)} (hA:LRed n A):qcn n (qbk (qcn n A++[List.replicate n Fl.one]))=lev (vsum n) A:=by
  have hK:=qqg hA
  have hl:∀ x∈qcn n A++[List.replicate n (Fl.one:α)],x.length=n:=by
    intro x hx
    rcases List.mem_append.1 hx with h|h
    · exact hK.len x h
    · rw [List.mem_singleton.1 h,List.length_replicate]
  obtain⟨d1,d2,_⟩:=qbz hl
  refine Cd.eq (Cd.self d1).dual (⟨lev_red hA.len,fun u=>lev_span (Lf.vsum n) hA.len u⟩:Cd n (lev (vsum n) A) fun u=>LSpan A u∧vsum n u=Fl.zero) fun u=>?_
  have hAu:LSpan A u↔Nul n (LSpan (qcn n A)) u:=by
    have:=(Cd.self hK).dual.span u
    rwa [dual_dual hA] at this
  have h1:LSpan (qcn n A++[List.replicate n (Fl.one:α)]) (vone n):=by
    rw [←toV_ones];exact LSpan.mem (by simp)
  have hdu:∀ w:Vc α,dotn n (vone n) w=vsum n w:=fun w=>by rw [qcq,dot_one w n n (Nat.le_refl _)]
  constructor
  · rintro⟨k1,k2⟩
    refine⟨hAu.2 ⟨k1,fun w hw=>k2 w ((d2 w).2 (LSpan.mono (fun x hx=>LSpan.mem (List.mem_append_left _ hx)) hw))⟩,?_⟩
    rw [←hdu];exact k2 _ ((d2 _).2 h1)
  · rintro⟨k1,k2⟩
    obtain⟨k3,k4⟩:=hAu.1 k1
    refine⟨k3,fun w hw=>?_⟩
    obtain⟨v,x,hv,hx,rfl⟩:=(lspan_app w).1 ((d2 w).1 hw)
    have hx0:dotn n x u=Fl.zero:=by
      refine LSpan.sub (S:=fun x=>dotn n x u=Fl.zero) ?_ (fun a b ha hb=>?_) (fun c a ha=>?_) (fun y hy=>?_) hx
      · rw [qcq];exact qqh u n
      · rw [qsc,ha,hb,Fl.add_zero]
      · rw [dotn_vs,ha,Fl.mul_zero]
      · rw [List.mem_singleton.1 hy,toV_ones,hdu];exact k2
    rw [qsc,k4 v hv,hx0,Fl.add_zero]
theorem evIn_c (Q:FQ α cd p e 2 blk) {v:Value} {n:Nat} {A:List (List α)} (hv:RowR H v (evr cd A)) (hA:LRed n A) (hn:n≤24) (hn0:1≤n) :
    FN Tryz.prog 29 [codv 2 n v] H (RetG cd 2 n (lev (vsum n) A) H):=by
  refine g29_of ?_
  unfold g29
  have ho:=hv.one'
  simp (disch:=omega) only [zA,zB,zC,zD,zF,zG,zH,↓reduceIte,ho]
  obtain⟨HX,hHX⟩:∃ HX,HX=H++[.cells [nv 2,nv n,v] 29 none false,.cells [nv 0,nv 0,.slice none 0 0,nv 0] 37 none false]:=⟨_,rfl⟩
  have hX:Pre H HX:=by rw [hHX];exact Pre.new _ _
  have hXl:HX.length=H.length+2:=by rw [hHX];simp
  have gX:HX[H.length+1]? = some (.cells [nv 0,nv 0,.slice none 0 0,nv 0] 37 none false):=by rw [hHX];simp
  obtain⟨HY,hHY⟩:∃ HY,HY=HX++[.cells [] 31 none false,.cells [nv 0,nv 0,.slice none 0 0,nv 0] 37 none false]:=⟨_,rfl⟩
  have hXY:Pre HX HY:=by rw [hHY];exact Pre.new _ _
  have hY:=hX.trans hXY
  have g0:HY[H.length]? = some (.cells [nv 2,nv n,v] 29 none false):=by rw [hHY,hHX];simp
  have g1:HY[H.length+1]? = some (.cells [nv 0,nv 0,.slice none 0 0,nv 0] 37 none false):=by rw [hHY,hHX];simp
  have g3:HY[H.length+3]? = some (.cells [nv 0,nv 0,.slice none 0 0,nv 0] 37 none false):=by rw [hHY,hHX];simp
  have hYl:HY.length=H.length+4:=by rw [hHY,hHX];simp
  have acc:AccR HX HY (.slice (some ⟨HX.length,0,none⟩) 0 0) [] 31:=by rw [hHY];exact AccR.new (Nat.le_refl _)
  have e0:H++[.cells [nv 2,nv n,v] 29 none false,.cells [nv 0,nv 0,.slice none 0 0,nv 0] 37 none false,.cells [] 31 none false,.cells [nv 0,nv 0,.slice none 0 0,nv 0] 37 none false]=HY:=by rw [hHY,hHX];simp
  rw [e0]
  rw [hXl] at acc
  clear e0 hHX hHY
  refine FZ.mono (qkg Q (hv.pre hY) hA hn hn0) ?_
  rintro _ H6 ⟨hp6,w,rfl,hw⟩
  have hD:=qqg hA
  have hDl:=hD.le
  have g06:=hp6.get g0
  have g36:=hp6.get g3
  have hX6:=hXY.trans hp6
  have pn:qbc (.prt none 2) [codv 2 n w]=some w:=rfl
  obtain⟨v14,H7,e7,acc7,hp7,_,fr7⟩:=(acc.pre hp6).appR (by_:=24) hX6.len hw.rowR (fun cs hcs=>by obtain⟨x,_,rfl⟩:=List.mem_map.1 hcs;exact qb3 _) (by rw [List.length_map];simp;omega) (by rw [List.length_map];simp;omega)
  rw [List.nil_append] at acc7
  have hp7':=hp7 hX6
  have g07:H7[H.length]? = some (.cells [nv 2,nv n,v] 29 none false):=fr7 _ _ _ _ _ (by decide) g06
  have g37:=fr7 _ _ _ _ _ (by decide) g36
  simp (disch:=omega) only [zA,zB,zC,zD,zF,zG,zH,↓reduceIte,g06,pn,e7,g07]
  refine FZ.mono (ones_c (by omega)) ?_
  rintro v17 H8 ⟨hp8,hv17⟩
  rw [show (List.replicate n 1).map nv=evs cd (List.replicate n (Fl.one:α)) by simp [evs,(Q.ok 0).one]] at hv17
  have hp9:=Pre.new H8 [.cells [v17] 31 none false]
  have g08:=hp8.get g07
  have g09:=hp9.get g08
  have g39:=(hp8.trans hp9).get g37
  have hr9:RowR (H8++[.cells [v17] 31 none false]) (.slice (some ⟨H8.length,0,none⟩) 1 1) (evr cd [List.replicate n (Fl.one:α)]):=
    ⟨[v17],(Row.of (b:=H8.length) (e:=31) (op:=none) (r:=false) (by simp) rfl (Nat.le_refl _)).x (by simp),⟨rfl,fun k hk=>by
      have:k=0:=by simp at hk;omega
      subst this;exact hv17.pre hp9⟩⟩
  obtain⟨v19,H10,e10,acc10,hp10,_,fr10⟩:=(acc7.pre (hp8.trans hp9)).appR (by_:=24) (hp7'.trans (hp8.trans hp9)).len hr9 (fun cs hcs=>by obtain⟨x,_,rfl⟩:=List.mem_map.1 hcs;exact qb3 _) (by rw [List.length_map];simp;omega) (by rw [List.length_map];simp;omega)
  have hp10':=hp10 (hp7'.trans (hp8.trans hp9))
  have g010:H10[H.length]? = some (.cells [nv 2,nv n,v] 29 none false):=fr10 _ _ _ _ _ (by decide) g09
  have g310:=fr10 _ _ _ _ _ (by decide) g39
  simp (disch:=(first|omega|(simp only [qbj]<;>omega)|(simp only [qbg];done)|rfl)) only [zA,zB,zC,zD,zF,zG,zH,Nat.reduceEqDiff,Nat.reduceLT,Nat.reduceLeDiff,↓reduceIte,g08,hv17.fill,g09,e10,g010]
  have hM:∀ x∈qcn n A++[List.replicate n (Fl.one:α)],x.length=n:=by
    intro x hx
    rcases List.mem_append.1 hx with h|h
    · exact hD.len x h
    · rw [List.mem_singleton.1 h,List.length_replicate]
  have hacc:RowR H10 v19 (evr cd (qcn n A++[List.replicate n (Fl.one:α)])):=by
    have:=acc10.rowR
    simpa [evr] using this
  refine FZ.mono (qkz Q hacc hM (by rw [List.length_append];simp;omega) (by omega) hn0) ?_
  rintro _ H11 ⟨hp11,w11,rfl,hw11⟩
  have hR:=(qbz hM).1
  have g311:=hp11.get g310
  obtain⟨H12,st12,g12,hp12,hw12⟩:=qmm (H0:=HX) (H1:=H11) (i:=H.length+3) (q:=2) (n:=n) (er:=0) g311 hw11 (by have:=qbx g310;omega) (by omega) (hp10'.trans hp11)
  simp (disch:=omega) only [zA,zB,zC,zD,zF,zG,zH,↓reduceIte,g311,st12,g12]
  refine FZ.mono (qkg Q hw12.rowR hR hn hn0) ?_
  rintro _ H13 ⟨hp13,w13,rfl,hw13⟩
  rw [even_dual hA] at hw13
  have hp1213:=hp12.trans hp13
  have gX1:H13[H.length+1]? = some (.cells [nv 0,nv 0,.slice none 0 0,nv 0] 37 none false):=by
    exact hp1213.get gX
  obtain⟨H14,st14,g14,hp14,hw14⟩:=qmm (H0:=H) (H1:=H13) (i:=H.length+1) (q:=2) (n:=n) (er:=0) gX1 hw13 (by have:=hp12.len;omega) (by omega) (hX.trans hp1213)
  have f8:=qr5 (q:=2) (n:=n) hw13.isSl
  simp (disch:=omega) only [zA,zB,zC,zD,zF,zG,zH,↓reduceIte,f8,gX1,st14,g14]
  exact⟨hp14,w13,rfl,hw14.mono (by have:=(hX.trans hp12).len;omega)⟩
end
end Go.Sim

namespace Go.Sim
open Go Go.Proofs
inductive Sp where
  | er (e:Nat)
  | ok (q n:Nat) (M:List (List Nat))
def Res (S:Sp) (H:AH) (r:Value):Prop:=match S with
  | .er e=>r=gotv 0 0 (.slice none 0 0) e
  | .ok q n M=>(M.length≤1000∧∀ l∈M,l.length≤1000)∧∃ w,r=gotv q n w 0∧RowR H w (M.map fun l=>l.map nv)
theorem Res.pre {S:Sp} {H H':AH} {r:Value} (h:Res S H r) (hp:Pre H H'):Res S H' r:=by
  cases S with
  | er e=>exact h
  | ok q n M=>obtain⟨h1,w,h2,h3⟩:=h;exact⟨h1,w,h2,h3.pre hp⟩
def RetS (S:Sp) (H:AH) (r:Value) (H':AH):Prop:=Pre H H'∧Res S H' r
theorem RetF.s {er:Nat} {H H':AH} {r:Value} (h:RetF er H r H'):RetS (.er er) H r H':=⟨h.2,h.1⟩
section
variable {H:AH}
theorem sameN_c {q n er:Nat} {v w:Value} {M:List (List Nat)} (hv:RowR H v (M.map fun l=>l.map nv)) (hw:RowR H w (M.map fun l=>l.map nv)) (hA:M.length≤1000) (hA2:∀ x∈M,x.length≤1000) :
    FN Tryz.prog 15 [gotv q n v er,gotv q n w er] H (fun r H'=>r=.bool true∧Pre H H'):=by
  refine g15_of ?_
  unfold g15
  have ho:one v=true:=by obtain⟨_,h,_⟩:=hv;exact h.1.one
  have ho2:one w=true:=by obtain⟨_,h,_⟩:=hw;exact h.1.one
  have hX:=Pre.new H [.cells [nv q,nv n,v,nv er] 37 none false,.cells [nv q,nv n,w,nv er] 37 none false]
  have key:∀ H:AH,RowR H v (M.map fun l=>l.map nv)→RowR H w (M.map fun l=>l.map nv)→FN Tryz.prog 64 [codv q n v,codv q n w] H (fun r H'=>r=.bool true∧Pre H H'):=by
    intro H hv hw
    refine g64_of ?_
    unfold g64
    have hX:=Pre.new H [.cells [nv q,nv n,v] 29 none false,.cells [nv q,nv n,w] 29 none false]
    simp (disch:=omega) only [zA,zB,zC,zD,zF,zG,zH,↓reduceIte,ho,ho2]
    refine FZ.use (rows_c (hv.pre hX) (hw.pre hX) (by omega) (fun l hl=>by have:=hA2 l hl;omega)) ?_
    simp (disch:=omega) only [zA,zB,zC,zD,zF,zG,zH,↓reduceIte]
    exact hX
  simp (disch:=omega) only [zA,zB,zC,zD,zF,zG,zH,↓reduceIte,ho,ho2]
  refine FZ.mono (key _ (hv.pre hX) (hw.pre hX)) ?_
  rintro _ H7 ⟨rfl,hp7⟩
  simp (disch:=omega) only [zA,zB,zC,zD,zF,zG,zH,↓reduceIte]
  exact hX.trans hp7
theorem qfw {S:Sp} {r r':Value} (h1:Res S H r) (h2:Res S H r'):FN Tryz.prog 15 [r,r'] H (fun v H'=>v=.bool true∧Pre H H'):=by
  cases S with
  | er e =>
    rw [show r=gotv 0 0 (.slice none 0 0) e from h1,show r'=gotv 0 0 (.slice none 0 0) e from h2]
    have hn:RowR H (.slice none 0 0) (([]:List (List Nat)).map fun l=>l.map nv):=⟨[],Acc.nil.x (H0:=H) (e:=31),⟨rfl,by simp⟩⟩
    exact sameN_c hn hn (by simp) (by simp)
  | ok q n M =>
    obtain⟨h3,w,rfl,h4⟩:=h1
    obtain⟨_,w',rfl,h5⟩:=h2
    exact sameN_c h4 h5 h3.1 h3.2
end
def Two (f g:FuncId) (P:AH→List Value→Prop):Prop:=∃ S,∀ H l,P H l→FN Tryz.prog f l H (RetS S H)∧FN Tryz.prog g l H (RetS S H)
section
variable {α:Type} [Fl α] [DecidableEq α] {cd:α→Nat} {p e b c q:Nat} {blk:AB}
abbrev nrows (cd:α→Nat) (A:List (List α)):List (List Nat):=A.map fun l=>l.map cd
theorem RetG.s {n:Nat} {A:List (List α)} (h1:A.length≤1000) (h2:∀ x∈A,x.length≤1000) {H H':AH} {r:Value} (h:RetG cd q n A H r H'):RetS (.ok q n (nrows cd A)) H r H':=by
  obtain⟨hp,w,rfl,hw⟩:=h
  refine⟨hp,⟨⟨by rw [List.length_map];exact h1,fun l hl=>?_⟩,w,rfl,?_⟩⟩
  · obtain⟨x,hx,rfl⟩:=List.mem_map.1 hl
    rw [List.length_map];exact h2 x hx
  · have:=hw.rowR
    rwa [evr_nv] at this
def isC (cd:α→Nat) (q n:Nat) (A:List (List α)) (H:AH) (v:Value):Prop:=∃ w,v=codv q n w∧RowR H w (evr cd A)
def isI (v:Value):Prop:=v=.int .i64 (-1)∨∃ i:Nat,v=nv i∧i≤1000
theorem qj8 {n:Nat} {M:List (List α)} (hl:∀ x∈M,x.length=n) (hM:M.length≤1000) (hn:n≤1000):(qbk M).length≤1000∧∀ x∈qbk M,x.length≤1000:=by
  obtain⟨h1,_,h3⟩:=qbz hl
  exact⟨by omega,fun x hx=>by rw [h1.len x hx];exact hn⟩
theorem two_ext (Q:FQ α cd p e q blk) {n:Nat} {A:List (List α)} (hl:∀ x∈A,x.length=n) (hG:A.length≤200) (hn:n<24) (hn0:0<n) :
    Two 16 17 (fun H l=>∃ a,l=[a]∧isC cd q n A H a):=by
  have hb:=qj8 ((LM.ext n).width hl) (by rw [List.length_map];omega) (by omega)
  refine⟨.ok q (n+1) (nrows cd (qbk (A.map (lext n)))),fun H l h=>?_⟩
  obtain⟨_,rfl,v,rfl,hv⟩:=h
  exact⟨(extended_c Q hv hl (by omega) hn hn0).mono fun _ _ h=>h.s hb.1 hb.2,(extIn_c Q hv hl (by omega) hn hn0).mono fun _ _ h=>h.s hb.1 hb.2⟩
theorem two_pun (Q:FQ α cd p e q blk) {n:Nat} {A:List (List α)} (hl:∀ x∈A,x.length=n) (hG:A.length≤200) (hn:n≤200) {i:Value} (hi:isI i) :
    Two 18 19 (fun H l=>∃ a,l=[a,i]∧isC cd q n A H a):=by
  rcases hi with rfl|⟨i,rfl,hi⟩
  · refine⟨.er 1,fun H l h=>?_⟩
    obtain⟨_,rfl,v,rfl,hv⟩:=h
    exact⟨(punctured_m hv.one').mono fun _ _ h=>h.s,(punIn_m hv.one').mono fun _ _ h=>h.s⟩
  · by_cases h:n≤i∨n<2
    · refine⟨.er 1,fun H l h'=>?_⟩
      obtain⟨_,rfl,v,rfl,hv⟩:=h'
      exact⟨(punctured_e hv.one' h).mono fun _ _ h=>h.s,(punIn_e hv.one' h).mono fun _ _ h=>h.s⟩
    · have hb:=qj8 ((LM.pick n (n-1) (qc0 i)).width hl) (by rw [List.length_map];omega) (by omega)
      refine⟨.ok q (n-1) (nrows cd (qbk (A.map (pick (n-1) (qc0 i))))),fun H l h'=>?_⟩
      obtain⟨_,rfl,v,rfl,hv⟩:=h'
      exact⟨(punctured_c Q hv hl (by omega) (by omega) (by omega) (by omega)).mono fun _ _ h=>h.s hb.1 hb.2,(punIn_c Q hv hl (by omega) (by omega) (by omega) (by omega)).mono fun _ _ h=>h.s hb.1 hb.2⟩
theorem two_sho (Q:FQ α cd p e q blk) {n:Nat} {A:List (List α)} (hA:LRed n A) (hn:n≤24) (hn0:1≤n) {i:Value} (hi:isI i) :
    Two 20 21 (fun H l=>∃ a,l=[a,i]∧isC cd q n A H a):=by
  have hle:=hA.le
  rcases hi with rfl|⟨i,rfl,hi⟩
  · refine⟨.er 1,fun H l h=>?_⟩
    obtain⟨_,rfl,v,rfl,hv⟩:=h
    exact⟨(shortened_m hv.one').mono fun _ _ h=>h.s,(shIn_m Q hv hA hn hn0).mono fun _ _ h=>h.s⟩
  · by_cases h:n≤i∨n<2
    · refine⟨.er 1,fun H l h'=>?_⟩
      obtain⟨_,rfl,v,rfl,hv⟩:=h'
      exact⟨(shortened_e hv.one' h).mono fun _ _ h=>h.s,(shIn_e Q hv hA hn hn0 h).mono fun _ _ h=>h.s⟩
    · have hk:=lkept_le (fun v:Vc α=>v i) A
      have hb:=qj8 ((LM.pick n (n-1) (qc0 i)).width (qfz (f:=fun v=>v i) hA.len)) (by rw [List.length_map];omega) (by omega)
      refine⟨.ok q (n-1) (nrows cd (qbk ((qf0 (fun v=>v i) A).map (pick (n-1) (qc0 i))))),fun H l h'=>?_⟩
      obtain⟨_,rfl,v,rfl,hv⟩:=h'
      exact⟨(shortened_c Q hv hA.len (by omega) (by omega) (by omega) (by omega)).mono fun _ _ h=>h.s hb.1 hb.2,(shIn_c Q hv hA (by omega) (by omega) (by omega)).mono fun _ _ h=>h.s hb.1 hb.2⟩
theorem lsum_bd {n m:Nat} (A B:List (List α)) (hA:A.length≤200) (hB:B.length≤200):(lsum n m A B).length≤1000∧∀ x∈lsum n m A B,x.length=n+m:=by
  refine⟨by unfold lsum;rw [List.length_append,List.length_map,List.length_map];omega,fun x hx=>?_⟩
  unfold lsum at hx
  rcases List.mem_append.1 hx with h|h<;>(obtain⟨y,_,rfl⟩:=List.mem_map.1 h;exact qck _ _ _)
theorem two_sum (Q:FQ α cd p e q blk) {n m:Nat} {A B:List (List α)} (hA:∀ x∈A,x.length=n) (hB:∀ x∈B,x.length=m) (hlA:A.length≤200) (hlB:B.length≤200) (hn0:0<n) (hm0:0<m) (hnm:n+m≤200) :
    Two 22 23 (fun H l=>∃ a b,l=[a,b]∧isC cd q n A H a∧isC cd q m B H b):=by
  by_cases h:24<n+m
  · refine⟨.er 2,fun H l h'=>?_⟩
    obtain⟨_,_,rfl,⟨v,rfl,hv⟩,w,rfl,hw⟩:=h'
    exact⟨(summed_b hv.one' hw.one' h (by omega)).mono fun _ _ h=>h.s,(sumIn_b hv.one' hw.one' h (by omega)).mono fun _ _ h=>h.s⟩
  · have h1:=lsum_bd (n:=n) (m:=m) A B hlA hlB
    have hb:=qj8 h1.2 h1.1 (by omega)
    refine⟨.ok q (n+m) (nrows cd (qbk (lsum n m A B))),fun H l h'=>?_⟩
    obtain⟨_,_,rfl,⟨v,rfl,hv⟩,w,rfl,hw⟩:=h'
    exact⟨(summed_c Q hv hw hA hB hlA hlB hn0 hm0 (by omega)).mono fun _ _ h=>h.s hb.1 hb.2,(sumIn_c Q hv hw hA hB hlA hlB hn0 hm0 (by omega)).mono fun _ _ h=>h.s hb.1 hb.2⟩
theorem two_dbl (Q:FQ α cd p e q blk) {n:Nat} {A B:List (List α)} (hA:∀ x∈A,x.length=n) (hB:∀ x∈B,x.length=n) (hlA:A.length≤200) (hlB:B.length≤200) (hn0:0<n) (hn:n≤100) :
    Two 24 25 (fun H l=>∃ a b,l=[a,b]∧isC cd q n A H a∧isC cd q n B H b):=by
  by_cases h:24<2*n
  · refine⟨.er 2,fun H l h'=>?_⟩
    obtain⟨_,_,rfl,⟨v,rfl,hv⟩,w,rfl,hw⟩:=h'
    exact⟨(doubled_b hv.one' hw.one' h (by omega)).mono fun _ _ h=>h.s,(dblIn_b hv.one' hw.one' h (by omega)).mono fun _ _ h=>h.s⟩
  · have hb:=qj8 (ldbl_len (n:=n) A B) (by unfold ldbl;rw [List.length_append,List.length_map,List.length_map];omega) (by omega)
    refine⟨.ok q (n+n) (nrows cd (qbk (ldbl n A B))),fun H l h'=>?_⟩
    obtain⟨_,_,rfl,⟨v,rfl,hv⟩,w,rfl,hw⟩:=h'
    exact⟨(doubled_c Q hv hw hA hB hlA hlB hn0 (by omega)).mono fun _ _ h=>h.s hb.1 hb.2,(dblIn_c Q hv hw hA hB hlA hlB hn0 (by omega)).mono fun _ _ h=>h.s hb.1 hb.2⟩
theorem two_ev (Q:FQ α cd p e q blk) {n:Nat} {A:List (List α)} (hA:LRed n A) (hn:n≤24) (hn0:1≤n) :
    Two 28 29 (fun H l=>∃ a,l=[a]∧isC cd q n A H a):=by
  have hle:=hA.le
  by_cases h:q=2
  · subst h
    have h1:=lev_len (n:=n) hA.len
    refine⟨.ok 2 n (nrows cd (lev (vsum n) A)),fun H l h'=>?_⟩
    obtain⟨_,rfl,v,rfl,hv⟩:=h'
    exact⟨(evened_c Q hv hA.len (by omega) (by omega) (by omega)).mono fun _ _ h=>h.s (by omega) (fun x hx=>by rw [h1.1 x hx];omega),(evIn_c Q hv hA hn hn0).mono fun _ _ h=>h.s (by omega) (fun x hx=>by rw [h1.1 x hx];omega)⟩
  · refine⟨.er 1,fun H l h'=>?_⟩
    obtain⟨_,rfl,v,rfl,hv⟩:=h'
    exact⟨(evened_e hv.one' h).mono fun _ _ h=>h.s,(evIn_e hv.one' h).mono fun _ _ h=>h.s⟩
theorem two_turn (Q:FQ α cd p e q blk) {n:Nat} {A:List (List α)} (hl:∀ x∈A,x.length=n) (hG:A.length≤200) (hn:n≤200) (hn0:0<n) {gs:List Int} (hgs:gs.length≤1000) :
    Two 30 31 (fun H l=>∃ a g,l=[a,g]∧isC cd q n A H a∧Row H g (gs.map iv)):=by
  by_cases h:PmI n gs
  · obtain⟨g,rfl,hg⟩:=h
    have hb:=qj8 ((LM.pick n n (fun j=>g.idxOf j)).width hl) (by rw [List.length_map];omega) (by omega)
    refine⟨.ok q n (nrows cd (qbk (A.map (qm7 n g)))),fun H l h'=>?_⟩
    obtain⟨_,gv,rfl,⟨v,rfl,hv⟩,hgv⟩:=h'
    rw [List.map_map] at hgv
    have hgv:Row H gv (g.map nv):=hgv
    exact⟨(turned_c Q hv hgv hg hl (by omega) (by omega) hn0).mono fun _ _ h=>h.s hb.1 hb.2,(turnIn_c Q hv hgv hg hl (by omega) (by omega) hn0).mono fun _ _ h=>h.s hb.1 hb.2⟩
  · refine⟨.er 1,fun H l h'=>?_⟩
    obtain⟨_,gv,rfl,⟨v,rfl,hv⟩,hgv⟩:=h'
    exact⟨(turned_e hv.one' hgv hgs (by omega) h).mono fun _ _ h=>h.s,(turnIn_e hv.one' hgv hgs (by omega) h).mono fun _ _ h=>h.s⟩
end
theorem two_sum_ne {q q2 n m:Nat} (hq:¬q=q2):Two 22 23 (fun H l=>∃ v w,l=[codv q n v,codv q2 m w]∧one v=true∧one w=true):=by
  refine⟨.er 1,fun H l h'=>?_⟩
  obtain⟨v,w,rfl,hv,hw⟩:=h'
  exact⟨(summed_e hv hw hq).mono fun _ _ h=>⟨h.2,h.1⟩,(sumIn_e hv hw hq).mono fun _ _ h=>h.s⟩
theorem two_dbl_ne {q q2 n m:Nat} (hq:¬(q=q2∧n=m)):Two 24 25 (fun H l=>∃ v w,l=[codv q n v,codv q2 m w]∧one v=true∧one w=true):=by
  refine⟨.er 1,fun H l h'=>?_⟩
  obtain⟨v,w,rfl,hv,hw⟩:=h'
  exact⟨(doubled_e hv hw hq).mono fun _ _ h=>⟨h.2,h.1⟩,(dblIn_e hv hw hq).mono fun _ _ h=>h.s⟩
theorem two_cat1 {q q2 n m:Nat} (hq:¬q=4):Two 26 27 (fun H l=>∃ v w,l=[codv q n v,codv q2 m w]∧one v=true∧one w=true):=by
  refine⟨.er 1,fun H l h'=>?_⟩
  obtain⟨v,w,rfl,hv,hw⟩:=h'
  exact⟨(concat_e1 hv hw hq).mono fun _ _ h=>h.s,(conIn_e1 hv hw hq).mono fun _ _ h=>h.s⟩
theorem two_cat2 {q2 n m:Nat} (hq:¬q2=2):Two 26 27 (fun H l=>∃ v w,l=[codv 4 n v,codv q2 m w]∧one v=true∧one w=true):=by
  refine⟨.er 1,fun H l h'=>?_⟩
  obtain⟨v,w,rfl,hv,hw⟩:=h'
  exact⟨(concat_e2 hv hw hq).mono fun _ _ h=>h.s,(conIn_e2 hv hw hq).mono fun _ _ h=>h.s⟩
section
variable {α β:Type} [Fl α] [Fl β] [DecidableEq α] [DecidableEq β] {cda:α→Nat} {cdb:β→Nat} {p e p2 e2:Nat} {blk blk2:AB}
theorem two_cat (Q4:FQ α cda p e 4 blk) (Q2:FQ β cdb p2 e2 2 blk2) {b0 b1:α→β} {two:α} (h2:cda two=2) (hb0:∀ a,cdb (b0 a)=cda a % 2) (hb1:∀ a,cdb (b1 a)=cda a / 2) (hcc:∀ x y z w:β,cdb (Fl.add (Fl.mul x y) (Fl.mul z w))=(cdb x*cdb y+cdb z*cdb w) % 2) {n m:Nat} {A:List (List α)} {B:List (List β)} (hA:∀ x∈A,x.length=n) (hB:∀ x∈B,x.length=m) (hlA:A.length≤100) (hlB:B.length≤200) (hn0:0<n) (hm0:0<m) (hn:n≤24) (hm:m≤24) :
    Two 26 27 (fun H l=>∃ a b,l=[a,b]∧isC cda 4 n A H a∧isC cdb 2 m B H b):=by
  have hnm0:n*m≤576:=Nat.mul_le_mul hn hm
  by_cases hB2:B.length=2
  · by_cases h:24<n*m
    · refine⟨.er 2,fun H l h'=>?_⟩
      obtain⟨_,_,rfl,⟨v,rfl,hv⟩,w,rfl,hw⟩:=h'
      have lw:=qhj hw
      rw [hB2] at lw
      exact⟨(concat_b hv.one' hw.one' lw h (by omega)).mono fun _ _ h=>h.s,(conIn_b hv.one' hw.one' lw h (by omega)).mono fun _ _ h=>h.s⟩
    · obtain⟨g,hg⟩:∃ g,g=B.getD 0 []:=⟨_,rfl⟩
      obtain⟨h',hh⟩:∃ h,h=B.getD 1 []:=⟨_,rfl⟩
      have hrep:∀ x:List α,(lrep b0 b1 m g h' x).map cdb=repL m ((B.getD 0 []).map cdb) ((B.getD 1 []).map cdb) (x.map cda):=fun x=>by
        rw [←hg,←hh];exact lrep_cd hb0 hb1 (Q2.ok 0).zero hcc m g h' x
      have hrl:∀ x:List α,x.length=n→(lrep b0 b1 m g h' x).length=n*m:=fun x hx=>by rw [lrep_len,hx]
      have hcl:∀ y∈(lcat two A).map (lrep b0 b1 m g h'),y.length=n*m:=by
        intro y hy
        obtain⟨x,hx,rfl⟩:=List.mem_map.1 hy
        refine hrl x ?_
        rcases List.mem_append.1 hx with h|h
        · exact hA x h
        · obtain⟨z,hz,rfl⟩:=List.mem_map.1 h;rw [List.length_map,hA z hz]
      have hb:=qj8 hcl (by unfold lcat;rw [List.length_map,List.length_append,List.length_map];omega) (by omega)
      refine⟨.ok 2 (n*m) (nrows cdb (qbk ((lcat two A).map (lrep b0 b1 m g h')))),fun H l h'=>?_⟩
      obtain⟨_,_,rfl,⟨v,rfl,hv⟩,w,rfl,hw⟩:=h'
      exact⟨(concat26_c Q4 Q2 h2 _ hrep hv hw hA hB hB2 hlA hn0 hm0 (by omega)).mono fun _ _ h=>h.s hb.1 hb.2,(conIn_c Q4 Q2 h2 _ hrep hrl hv hw hA hB hB2 hlA hn0 hm0 hn hm (by omega)).mono fun _ _ h=>h.s hb.1 hb.2⟩
  · refine⟨.er 1,fun H l h'=>?_⟩
    obtain⟨_,_,rfl,⟨v,rfl,hv⟩,w,rfl,hw⟩:=h'
    exact⟨(concat_e3 hv.one' hw.one' (qhj hw) hB2).mono fun _ _ h=>h.s,(conIn_e3 hv.one' hw.one' (qhj hw) hB2).mono fun _ _ h=>h.s⟩
end
end Go.Sim

namespace Go.Sim.Pf
open Go Go.Proofs
theorem fq_cat (j:Nat) (hj:j<6):∃ (α:Type) (i1:Fl α) (_:DecidableEq α) (cd:α→Nat) (p e:Nat) (blk:AB),FQ α cd p e (ordM j) blk∧(j=2→∃ (β:Type) (_:Fl β) (_:DecidableEq β) (cdb:β→Nat) (p2 e2:Nat) (blk2:AB) (b0 b1:α→β) (two:α),FQ β cdb p2 e2 2 blk2∧cd two=2∧(∀ a,cdb (b0 a)=cd a % 2)∧(∀ a,cdb (b1 a)=cd a / 2)∧∀ x y z w:β,cdb (Fl.add (Fl.mul x y) (Fl.mul z w))=(cdb x*cdb y+cdb z*cdb w) % 2):=by
  by_cases h:j=2
  · subst h
    obtain⟨α,β,i1,i2,i3,i4,cda,cdb,p,e,p2,e2,blk,blk2,b0,b1,two,lift,Q4,Q2,BB,h2,hb0,hb1,hcc⟩:=fq42
    exact⟨α,i1,i3,cda,p,e,blk,Q4,fun _=>⟨β,i2,i4,cdb,p2,e2,blk2,b0,b1,two,Q2,h2,hb0,hb1,hcc⟩⟩
  · obtain⟨α,i1,i2,cd,p,e,blk,Q⟩:=fq_at j hj
    exact⟨α,i1,i2,cd,p,e,blk,Q,fun h'=>absurd h' h⟩
end Go.Sim.Pf
namespace Go.Sim
open Go Go.Proofs
def TwoAt (f g:FuncId) (H0:AH) (l:List Value):Prop:=∃ S,∀ H,Pre H0 H→FN Tryz.prog f l H (RetS S H)∧FN Tryz.prog g l H (RetS S H)
theorem Two.at_ {f g:FuncId} {P:AH→List Value→Prop} (h:Two f g P) {H0:AH} {l:List Value} (hP:∀ H,Pre H0 H→P H l):TwoAt f g H0 l:=by
  obtain⟨S,hS⟩:=h
  exact⟨S,fun H hp=>hS H l (hP H hp)⟩
theorem TwoAt.pre {f g:FuncId} {H0 H1:AH} {l:List Value} (h:TwoAt f g H0 l) (hp:Pre H0 H1):TwoAt f g H1 l:=by
  obtain⟨S,hS⟩:=h
  exact⟨S,fun H hp'=>hS H (hp.trans hp')⟩
section
variable {α:Type} [Fl α] [DecidableEq α] {cd:α→Nat} {p e b c q:Nat} {blk:AB} {H:AH}
theorem madeB_c {j:Nat} (hj6:j<6) (Q:FQ α cd p e (Pf.ordM j) blk)
    (hcat:j=2→∃ (β:Type) (_:Fl β) (_:DecidableEq β) (cdb:β→Nat) (p2 e2:Nat) (blk2:AB) (b0 b1:α→β) (two:α),FQ β cdb p2 e2 2 blk2∧cd two=2∧(∀ a,cdb (b0 a)=cd a % 2)∧(∀ a,cdb (b1 a)=cd a / 2)∧∀ x y z w:β,cdb (Fl.add (Fl.mul x y) (Fl.mul z w))=(cdb x*cdb y+cdb z*cdb w) % 2)
    {va:Value} {n:Nat} {A:List (List α)} (hA:LRed n A) (hA8:A.length≤8) (hn:1≤n) (hn10:n≤10) (hva:RowR H va (evr cd A)) {y:Value} {ws:List Nat} {k2 n2 m2:Nat} (hm2:m2<256) (hws:∀ u∈ws,u<256) (hy:Row H y (ws.map bv)) :
    FN Tryz.prog 12 [rawv k2 n2 m2 y] H (fun r H'=>Pre H H'∧∃ vb,r=codv (Pf.ordM (k2 % 6)) (1+n2 % 10) vb∧one vb=true ∧
      TwoAt 22 23 H' [codv (Pf.ordM j) n va,codv (Pf.ordM (k2 % 6)) (1+n2 % 10) vb]∧TwoAt 24 25 H' [codv (Pf.ordM j) n va,codv (Pf.ordM (k2 % 6)) (1+n2 % 10) vb]∧TwoAt 26 27 H' [codv (Pf.ordM j) n va,codv (Pf.ordM (k2 % 6)) (1+n2 % 10) vb]):=by
  have hk26:k2 % 6<6:=Nat.mod_lt _ (by omega)
  have hov:=hva.one'
  have o4:Pf.ordM 2=4:=rfl
  have o2:Pf.ordM 0=2:=rfl
  obtain⟨nb,hnb⟩:∃ nb,nb=1+n2 % 10:=⟨_,rfl⟩
  have hnb1:1≤nb∧nb≤10:=by omega
  -- another field
  have other:¬k2 % 6=j→∀ (H':AH) (vb:Value),one vb=true→TwoAt 22 23 H' [codv (Pf.ordM j) n va,codv (Pf.ordM (k2 % 6)) nb vb]∧TwoAt 24 25 H' [codv (Pf.ordM j) n va,codv (Pf.ordM (k2 % 6)) nb vb]:=fun hne H' vb hvb=>by
    have hq:¬Pf.ordM j=Pf.ordM (k2 % 6):=fun h=>hne (Pf.ordM_inj hj6 hk26 h).symm
    exact⟨(two_sum_ne hq).at_ fun _ _=>⟨_,_,rfl,hov,hvb⟩,(two_dbl_ne fun h=>hq h.1).at_ fun _ _=>⟨_,_,rfl,hov,hvb⟩⟩
  -- no concatenation
  have nocat:¬(j=2∧k2 % 6=0)→∀ (H':AH) (vb:Value),one vb=true→TwoAt 26 27 H' [codv (Pf.ordM j) n va,codv (Pf.ordM (k2 % 6)) nb vb]:=fun hne H' vb hvb=>by
    by_cases h4:Pf.ordM j=4
    · have hj2:j=2:=Pf.ordM_inj hj6 (by decide) (h4.trans o4.symm)
      have h2:¬Pf.ordM (k2 % 6)=2:=fun h=>hne ⟨hj2,Pf.ordM_inj hk26 (by decide) (h.trans o2.symm)⟩
      rw [h4]
      exact (two_cat2 h2).at_ fun _ _=>⟨_,_,rfl,hov,hvb⟩
    · exact (two_cat1 h4).at_ fun _ _=>⟨_,_,rfl,hov,hvb⟩
  rw [←hnb]
  by_cases hj:k2 % 6=j
  · refine (made_c Q hj hm2 hws hy).mono ?_
    rintro _ H' ⟨h1,w,B,rfl,hB,hB8,hw⟩
    rw [←hnb] at hB
    have eB:∀ H'',Pre H' H''→isC cd (Pf.ordM j) nb B H'' (codv (Pf.ordM j) nb w):=fun H'' hp=>⟨w,rfl,hw.rowR.pre hp⟩
    have eA:∀ H'',Pre H' H''→isC cd (Pf.ordM j) n A H'' (codv (Pf.ordM j) n va):=fun H'' hp=>⟨va,rfl,hva.pre (h1.trans hp)⟩
    have hc:=nocat (fun h=>by omega) H' w hw.one
    rw [hj] at hc ⊢
    refine⟨h1,w,by rw [←hnb],hw.one,(two_sum Q hA.len hB.len (by omega) (by omega) (by omega) (by omega) (by omega)).at_ fun H'' hp=>⟨_,_,rfl,eA H'' hp,eB H'' hp⟩,?_,hc⟩
    by_cases hab:n=nb
    · subst hab
      exact (two_dbl Q hA.len hB.len (by omega) (by omega) (by omega) (by omega)).at_ fun H'' hp=>⟨_,_,rfl,eA H'' hp,eB H'' hp⟩
    · exact (two_dbl_ne fun h=>hab h.2).at_ fun _ _=>⟨_,_,rfl,hov,hw.one⟩
  · by_cases hc:j=2∧k2 % 6=0
    · obtain⟨hj2,hk0⟩:=hc
      obtain⟨β,i1,i2,cdb,p2,e2,blk2,b0,b1,two,Q2,h2,hb0,hb1,hcc⟩:=hcat hj2
      refine (made_c (j:=0) Q2 hk0 hm2 hws hy).mono ?_
      rintro _ H' ⟨h1,w,B,rfl,hB,hB8,hw⟩
      rw [←hnb] at hB
      have ho:=other hj H' w hw.one
      rw [hk0] at ho ⊢
      refine⟨h1,w,by rw [←hnb],hw.one,ho.1,ho.2,?_⟩
      subst hj2
      exact (two_cat (p2:=p2) (e2:=e2) (blk2:=blk2) Q Q2 h2 hb0 hb1 hcc hA.len hB.len (by omega) (by omega) (by omega) (by omega) (by omega) (by omega)).at_ fun H'' hp=>⟨_,_,rfl,⟨va,rfl,hva.pre (h1.trans hp)⟩,⟨w,rfl,hw.rowR.pre hp⟩⟩
    · obtain⟨β,j1,j2,cd2,p2,e2,blk2,Q2⟩:=Pf.fq_at (k2 % 6) hk26
      refine (made_c Q2 rfl hm2 hws hy).mono ?_
      rintro _ H' ⟨h1,w,B,rfl,hB,hB8,hw⟩
      have ho:=other hj H' w hw.one
      exact⟨h1,w,by rw [←hnb],hw.one,ho.1,ho.2,nocat hc H' w hw.one⟩
end
end Go.Sim
