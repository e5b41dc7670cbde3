/- Part of the proof: ZTrF, ZTrH, ZTrI, ZTrJ, ZTrQ, ZTrM, TlH, TlI. -/
import Derived.Test.YtbfpepbfpebmmaaGreatTLinZTrAToZShFr
import Derived.Test.YtbfpepbfpebmmaaGreatTLinTrE
import Derived.Test.YtbfpepbfpebmmaaGreatTLinMoAToZTlA
import Derived.Test.YtbfpepbfpebmmaaGreatTLinShLw
import Derived.Test.YtbfpepbfpebmmaaGreatTLinMsPToTlG
set_option linter.all false
namespace Go.Sim
open Go Go.Proofs Kr
section
variable {H:AH}
theorem one_c {z:Int}:FN Tryz.prog 58 [zv z] H (fun r H'=>r=frv z 1∧H'=H):=by
  refine FN.pre0' (g58_of ?_) (by simp [frv,ground,scal])
  unfold g58
  have hx:(qbv [nv 0,nv 0] [(0,1),(1,1)] [zv z,nv 1])=some [zv z,nv 1]:=rfl
  simp (disch:=(first|omega|(simp only [qbf]<;>omega)|(simp only [qbd];done)|rfl)) only [zA,zB,zC,zD,zF,zG,zH,Nat.reduceEqDiff,Nat.reduceLT,Nat.reduceLeDiff,↓reduceIte,hx]
  rw [stB2 rfl rfl]
  simp (disch:=(first|omega|(simp only [qbf]<;>omega)|(simp only [qbd];done)|rfl)) only [zA,zB,zC,zD,zF,zG,zH,Nat.reduceEqDiff,Nat.reduceLT,Nat.reduceLeDiff,↓reduceIte]
  exact⟨Pre.new _ _,rfl⟩
theorem tword_c {q n:Nat} {v:Value} {ws:List Nat} (hv:Row H v (ws.map nv)) (hl:ws.length=n) (hw:∀ x∈ws,x<q) (hq:q≤16) (hn:n≤24):FN Tryz.prog 155 [nv q,nv n,v] H (fun r H'=>r=.bool true∧H'=H):=by
  refine g155_of ?_
  unfold g155
  obtain⟨w1,w2,w3,_⟩:=hv.all 0
  simp (disch:=(first|omega|(simp only [qbf]<;>omega)|(simp only [qbd];done)|rfl)) only [zA,zB,zC,zD,zF,zG,zH,Nat.reduceEqDiff,Nat.reduceLT,Nat.reduceLeDiff,↓reduceIte,w1]
  refine loopV1.nat ws.length (fun k x H'=>x=nv k∧H'=H) ⟨rfl,rfl⟩ ?_ ?_
  · rintro k x H1 hk ⟨rfl,rfl⟩ J hJ
    have hx:ws.getD k 0<q:=by
      rw [List.getD_eq_getElem?_getD,List.getElem?_eq_getElem hk]
      exact hw _ (List.getElem_mem hk)
    generalize hX:ws.getD k 0=X at *
    have hge:¬q≤X:=by omega
    have hk1:k+1<1000:=by omega
    have e0:xbin .lss 0 (nv X) (nv 0)=some (.bool false):=by simp [xbin]
    simp (disch:=(first|omega|(simp only [qbf]<;>omega)|(simp only [qbd];done)|rfl)) only [zA,zB,zC,zD,zF,zG,zH,Nat.reduceEqDiff,Nat.reduceLT,Nat.reduceLeDiff,↓reduceIte,hk,w2,w3,hX,hge,e0,hk1]
    exact hJ _ _ ⟨rfl,rfl⟩
  · rintro x H1 ⟨rfl,rfl⟩ J
    simp (disch:=(first|omega|(simp only [qbf]<;>omega)|(simp only [qbd];done)|rfl)) only [zA,zB,zC,zD,zF,zG,zH,Nat.reduceEqDiff,Nat.reduceLT,Nat.reduceLeDiff,↓reduceIte,w1,hl]
theorem must_c {n d:Int}:FN Tryz.prog 162 [frv n d,nv 0] H (fun r H'=>r=frv n d∧H'=H):=by
  refine FN.pre0' (g162_of ?_) (by simp [frv,ground,scal])
  unfold g162
  have ec:qbn (frv n d)=[zv n,zv d]:=rfl
  simp (disch:=(first|omega|(simp only [qbf]<;>omega)|(simp only [qbd];done)|rfl)) only [zA,zB,zC,zD,zF,zG,zH,Nat.reduceEqDiff,Nat.reduceLT,Nat.reduceLeDiff,↓reduceIte,ec]
  rw [stB2 rfl rfl]
  simp (disch:=(first|omega|(simp only [qbf]<;>omega)|(simp only [qbd];done)|rfl)) only [zA,zB,zC,zD,zF,zG,zH,Nat.reduceEqDiff,Nat.reduceLT,Nat.reduceLeDiff,↓reduceIte]
  exact⟨Pre.new _ _,rfl⟩
end
end Go.Sim

namespace Go.Sim
open Go Go.Proofs Kr
def lw (wss:List (List Nat)) (i c:Nat):Nat:=(wss.getD i []).getD c 0
def lo (n:Nat) (w:Nat→Nat→Nat) (j:Nat):Nat→Nat
  | 0=>0
  | i+1=>lo n w j i+2*cn i fun y=>decide (far n (w i) (w y)=j)
def prs (n:Nat) (w:Nat→Nat→Nat) (i j:Nat):Nat:=(if j=0 then i else 0)+lo n w j i
theorem cn_le (m:Nat) (p:Nat→Bool):cn m p≤m:=by
  induction m with
  | zero=>exact Nat.le_refl _
  | succ m ih=>simp only [cn];split<;>omega
theorem lo_le (n:Nat) (w:Nat→Nat→Nat) (j:Nat):∀ i,lo n w j i≤2*i*i:=by
  intro i
  induction i with
  | zero=>exact Nat.le_refl _
  | succ i ih =>
    have h:=cn_le i fun y=>decide (far n (w i) (w y)=j)
    simp only [lo]
    have e:2*(i+1)*(i+1)=2*i*i+2*i+2*(i+1):=by
      rw [Nat.mul_add,Nat.mul_one,Nat.mul_add 2 i 1,Nat.add_mul]
    omega
theorem prs_le {n i j:Nat} {w:Nat→Nat→Nat} (hi:i≤64):prs n w i j≤64+8192:=by
  have h1:=lo_le n w j i
  have h2:2*i*i≤2*64*64:=Nat.mul_le_mul (Nat.mul_le_mul_left 2 hi) hi
  unfold prs
  split<;>omega
theorem set_map {n d:Nat} {f g:Nat→Nat} (hd:d<n) (x:Nat) (h:∀ j,j<n→g j=if j=d then x else f j):((List.range n).map f).set d x=(List.range n).map g:=by
  refine List.ext_getElem? fun k=>?_
  rw [List.getElem?_set]
  by_cases hk:k<n
  · by_cases e:d=k
    · subst e
      simp [hk,h d hk]
    · simp [hk,e,h k hk,show ¬k=d from fun h=>e h.symm]
  · simp [hk];intro e;omega
theorem getD_map {n d:Nat} {f:Nat→Nat} (hd:d<n):((List.range n).map f).getD d 0=f d:=by
  simp [List.getD_eq_getElem?_getD,hd]
theorem makeF_nat {a m:Nat} (hm:0<m) (ha:a≤4611686018427387904) (hm2:m≤4611686018427387904):makeF (a:Int) (m:Int)=.tuple [frv (rN a m) (rD a m),nv 0].toArray:=by
  unfold makeF
  rw [if_neg (by omega)]
  by_cases h0:(a:Int)=0
  · rw [if_pos h0]
    have:a=0:=by omega
    subst this
    have:=qh4 hm
    have e1:rN ((0:Nat):Int) m=0:=this.1
    have e2:rD ((0:Nat):Int) m=1:=this.2
    rw [e1,e2]
    rfl
  · rw [if_neg h0]
    have hs:(!(decide ((a:Int)<0) == decide ((m:Int)<0)))=false:=by rw [qks,decide_eq_false];omega
    rw [hs]
    have hle:=red_le (a:=(a:Int)) (m:=m)
    rw [show ((a:Nat):Int).natAbs=a from rfl] at hle
    rw [qq3 (a:=(a:Int)) (m:=m)]
    · unfold finF
      have hc:(rN (a:Int) m).natAbs≤4611686018427387904∧rD (a:Int) m≤4611686018427387904:=⟨by omega,by omega⟩
      rw [if_pos hc]
    · have hn:¬((a:Nat):Int)<0:=by omega
      unfold rN
      rw [if_neg hn]
      rfl
    · rfl
section
variable {H:AH}
def dfs (n m:Nat) (w:Nat→Nat→Nat):List (Int×Nat):=(List.range (n+1)).map fun j=>(rN (prs n w m j) m,rD (prs n w m j) m)
theorem dist_c {q n:Nat} {v:Value} {wss:List (List Nat)} (hq:2≤q∧q≤16) (hn:n≤24) (hm:0<wss.length) (hm2:wss.length≤64) (hw:∀ ws∈wss,ws.length=n∧∀ x∈ws,x<q) (hv:RowR H v (wss.map fun ws=>ws.map nv)) :
    FN Tryz.prog 104 [nv q,nv n,v] H (fun r H'=>Pre H H'∧∃ u,r=.tuple [u,nv 0].toArray∧AccF H H' u (dfs n wss.length (lw wss))):=by
  refine g104_of ?_
  unfold g104
  refine FZ.use (qrn (q:=q) (n:=n)) ?_
  rw [decide_eq_true (show 2≤(q:Int)∧(q:Int)≤16∧0≤(n:Int)∧(n:Int)≤24 by omega)]
  obtain⟨vs,hv1,hr⟩:=hv
  obtain⟨w1,w2,w3,w4⟩:=hv1.1.allV
  have hvl:vs.length=wss.length:=by rw [hr.1];simp
  rw [hvl] at w1 w2 w3 w4
  have hl1:¬wss.length<1:=by omega
  have hl2:¬64<wss.length:=by omega
  have h8:8*(n+1)≤281474976710656:=by omega
  simp (disch:=(first|omega|(simp only [qbf]<;>omega)|(simp only [qbd];done)|rfl)) only [zA,zB,zC,zD,zF,zG,zH,Nat.reduceEqDiff,Nat.reduceLT,Nat.reduceLeDiff,↓reduceIte,w1,hl1,hl2,qdw,h8]
  have hrep:(List.replicate (n+1) 0)=(List.range (n+1)).map (prs n (lw wss) 0):=by
    refine List.ext_getElem (by simp) fun k h1 h2=>?_
    simp [prs,lo]
  rw [hrep]
  have hlen:wss.length=wss.length:=rfl
  refine loopV1.nat wss.length (fun i x H'=>x=nv i∧H'=H++[.cells (((List.range (n+1)).map (prs n (lw wss) i)).map nv) 3 none false]) ⟨rfl,rfl⟩ ?_ ?_
  · rintro i x H1 hi ⟨rfl,rfl⟩ J hJ
    have hp:=Pre.new H [AB.cells (((List.range (n+1)).map (prs n (lw wss) i)).map nv) 3 none false]
    have w2':=w2 i hi
    have w4':=fun Y=>w4 i Y hi
    have hmem:∀ k,k<wss.length→wss.getD k []∈wss:=by
      intro k hk
      rw [List.getD_eq_getElem?_getD,List.getElem?_eq_getElem hk];exact List.getElem_mem hk
    have hcs:∀ k,k<wss.length→(wss.map fun ws=>ws.map nv).getD k []=(wss.getD k []).map nv:=by
      intro k hk;simp [List.getD_eq_getElem?_getD,List.getElem?_eq_getElem hk]
    have hrow:∀ k,k<wss.length→Row H (vs.getD k undef) ((wss.getD k []).map nv):=by
      intro k hk
      have:=hr.2 k (by simpa using hk)
      rwa [hcs k hk] at this
    obtain⟨hln,hlt⟩:=hw _ (hmem i hi)
    have hri:=hrow i hi
    simp (disch:=(first|omega|(simp only [qbf]<;>omega)|(simp only [qbd];done)|rfl)) only [zA,zB,zC,zD,zF,zG,zH,Nat.reduceEqDiff,Nat.reduceLT,Nat.reduceLeDiff,↓reduceIte,hi,w1,w2',w4']
    refine FZ.use (tword_c (hri.pre hp) hln hlt (by omega) hn) ?_
    have hg0:((List.range (n+1)).map (prs n (lw wss) i)).getD 0 0=prs n (lw wss) i 0:=getD_map (by omega)
    have hl0:0<((List.range (n+1)).map (prs n (lw wss) i)).length:=by simp
    have hb0:=prs_le (n:=n) (j:=0) (w:=lw wss) (show i≤64 by omega)
    have hb0':prs n (lw wss) i 0+1<100000:=by omega
    simp (disch:=(first|omega|(simp only [qbf]<;>omega)|(simp only [qbd];done)|rfl)) only [zA,zB,zC,zD,zF,zG,zH,Nat.reduceEqDiff,Nat.reduceLT,Nat.reduceLeDiff,↓reduceIte,hl0,hg0,hb0']
    have hset:((List.range (n+1)).map (prs n (lw wss) i)).set 0 (prs n (lw wss) i 0+1)=(List.range (n+1)).map fun j=>prs n (lw wss) i j+(if j=0 then 1 else 0)+2*cn 0 fun y=>decide (far n (lw wss i) (lw wss y)=j):=by
      refine set_map (by omega) _ fun j _=>?_
      by_cases e:j=0
      · subst e;simp [cn]
      · simp [cn,e]
    rw [hset]
    obtain⟨v',hu1,hu2⟩:=hv1.1.upto (hi:=i) (by omega) (by omega)
    obtain⟨x1,x2,x3,x4⟩:=hu2.allV
    have hul:(vs.take i).length=i:=by simp;omega
    rw [hul] at x1 x2 x3 x4
    simp (disch:=(first|omega|(simp only [qbf]<;>omega)|(simp only [qbd];done)|rfl)) only [zA,zB,zC,zD,zF,zG,zH,Nat.reduceEqDiff,Nat.reduceLT,Nat.reduceLeDiff,↓reduceIte,hu1,x1]
    refine loopV1.nat i (fun b x H'=>x=nv b∧H'=H++[.cells (((List.range (n+1)).map fun j=>prs n (lw wss) i j+(if j=0 then 1 else 0)+2*cn b fun y=>decide (far n (lw wss i) (lw wss y)=j)).map nv) 3 none false]) ⟨rfl,rfl⟩ ?_ ?_
    · rintro b x H2 hb ⟨rfl,rfl⟩ J2 hJ2
      have x2':=x2 b hb
      have x4':=fun Y=>x4 b Y hb
      have hgb:(vs.take i).getD b undef=vs.getD b undef:=by
        simp [List.getD_eq_getElem?_getD,List.getElem?_take_of_lt hb]
      rw [hgb] at x4'
      have hrb:=hrow b (by omega)
      obtain⟨hlnb,hltb⟩:=hw _ (hmem b (by omega))
      obtain⟨a1,a2,a3,a4⟩:=hri.all 0
      obtain⟨b1,b2,b3,b4⟩:=hrb.all 0
      rw [hln] at a1 a2 a3 a4
      rw [hlnb] at b1 b2 b3 b4
      simp (disch:=(first|omega|(simp only [qbf]<;>omega)|(simp only [qbd];done)|rfl)) only [zA,zB,zC,zD,zF,zG,zH,Nat.reduceEqDiff,Nat.reduceLT,Nat.reduceLeDiff,↓reduceIte,hb,x2',x4',a1]
      refine loopV2.nat n (fun k f x H'=>x=nv k∧H'=H++[.cells (((List.range (n+1)).map fun j=>prs n (lw wss) i j+(if j=0 then 1 else 0)+2*cn b fun y=>decide (far n (lw wss i) (lw wss y)=j)).map nv) 3 none false]∧f=nv (far k (lw wss i) (lw wss b))) ⟨rfl,rfl,rfl⟩ ?_ ?_
      · rintro k f x H3 hk ⟨rfl,rfl,rfl⟩ J3 hJ3
        have a2':=a2 k hk
        have a4':=fun Y=>a4 k Y hk
        have b2':=b2 k hk
        have b4':=fun Y=>b4 k Y hk
        have hfl:=far_le k (lw wss i) (lw wss b)
        have hf1:far k (lw wss i) (lw wss b)+1<1000:=by omega
        have hk1:k+1<1000:=by omega
        have h1e:(wss.getD i []).getD k 0=lw wss i k:=rfl
        have h2e:(wss.getD b []).getD k 0=lw wss b k:=rfl
        simp only [h1e,h2e] at a4' b4'
        by_cases he:lw wss i k=lw wss b k
        · have hs:far (k+1) (lw wss i) (lw wss b)=far k (lw wss i) (lw wss b):=by simp only [far,he,if_true,Nat.add_zero]
          have ne:xbin .neq 0 (nv (lw wss i k)) (nv (lw wss b k))=some (.bool false):=by simp [xbin,he]
          simp (disch:=(first|omega|(simp only [qbf]<;>omega)|(simp only [qbd];done)|rfl)) only [zA,zB,zC,zD,zF,zG,zH,Nat.reduceEqDiff,Nat.reduceLT,Nat.reduceLeDiff,↓reduceIte,hk,a2',a4',b2',b4',ne,hk1]
          exact hJ3 _ _ _ ⟨rfl,rfl,by rw [hs]⟩
        · have hs:far (k+1) (lw wss i) (lw wss b)=far k (lw wss i) (lw wss b)+1:=by simp only [far,he,if_false]
          have ne:xbin .neq 0 (nv (lw wss i k)) (nv (lw wss b k))=some (.bool true):=by simp [xbin];omega
          simp (disch:=(first|omega|(simp only [qbf]<;>omega)|(simp only [qbd];done)|rfl)) only [zA,zB,zC,zD,zF,zG,zH,Nat.reduceEqDiff,Nat.reduceLT,Nat.reduceLeDiff,↓reduceIte,hk,a2',a4',b2',b4',ne,hk1,hf1]
          exact hJ3 _ _ _ ⟨rfl,rfl,by rw [hs]⟩
      · rintro f x H3 ⟨rfl,rfl,rfl⟩ J3
        have hfl:=far_le n (lw wss i) (lw wss b)
        have hd:far n (lw wss i) (lw wss b)<n+1:=by omega
        have hgd:=getD_map (f:=fun j=>prs n (lw wss) i j+(if j=0 then 1 else 0)+2*cn b fun y=>decide (far n (lw wss i) (lw wss y)=j)) hd
        have hset:((List.range (n+1)).map fun j=>prs n (lw wss) i j+(if j=0 then 1 else 0)+2*cn b fun y=>decide (far n (lw wss i) (lw wss y)=j)).set (far n (lw wss i) (lw wss b)) ((prs n (lw wss) i (far n (lw wss i) (lw wss b))+(if far n (lw wss i) (lw wss b)=0 then 1 else 0)+2*cn b fun y=>decide (far n (lw wss i) (lw wss y)=far n (lw wss i) (lw wss b)))+2)=(List.range (n+1)).map fun j=>prs n (lw wss) i j+(if j=0 then 1 else 0)+2*cn (b+1) fun y=>decide (far n (lw wss i) (lw wss y)=j):=by
          refine set_map hd _ fun j _=>?_
          simp only [cn]
          by_cases e:j=far n (lw wss i) (lw wss b)
          · subst e;simp;omega
          · simp [e,show ¬far n (lw wss i) (lw wss b)=j from fun h=>e h.symm]
        have hbd:=prs_le (n:=n) (j:=far n (lw wss i) (lw wss b)) (w:=lw wss) (show i≤64 by omega)
        have hcb:=cn_le b fun y=>decide (far n (lw wss i) (lw wss y)=far n (lw wss i) (lw wss b))
        generalize hD:far n (lw wss i) (lw wss b)=D at *
        have hX:(prs n (lw wss) i D+(if D=0 then 1 else 0)+2*cn b fun y=>decide (far n (lw wss i) (lw wss y)=D))+2<100000:=by
          split<;>omega
        have hlD:D<((List.range (n+1)).map fun j=>prs n (lw wss) i j+(if j=0 then 1 else 0)+2*cn b fun y=>decide (far n (lw wss i) (lw wss y)=j)).length:=by simpa using hd
        generalize (prs n (lw wss) i D+(if D=0 then 1 else 0)+2*cn b fun y=>decide (far n (lw wss i) (lw wss y)=D))=X at *
        have hb1:b+1<1000:=by omega
        rw [←hset] at hJ2
        generalize ((List.range (n+1)).map fun j=>prs n (lw wss) i j+(if j=0 then 1 else 0)+2*cn b fun y=>decide (far n (lw wss i) (lw wss y)=j))=L at *
        simp (disch:=(first|omega|(simp only [qbf]<;>omega)|(simp only [qbd];done)|rfl)) only [zA,zB,zC,zD,zF,zG,zH,Nat.reduceEqDiff,Nat.reduceLT,Nat.reduceLeDiff,↓reduceIte,a1,hlD,hgd,hX,hb1]
        exact hJ2 _ _ ⟨rfl,rfl⟩
    · rintro x H2 ⟨rfl,rfl⟩ J2
      have hi1:i+1<1000:=by omega
      simp (disch:=(first|omega|(simp only [qbf]<;>omega)|(simp only [qbd];done)|rfl)) only [zA,zB,zC,zD,zF,zG,zH,Nat.reduceEqDiff,Nat.reduceLT,Nat.reduceLeDiff,↓reduceIte,x1,hi1]
      refine hJ _ _ ⟨rfl,?_⟩
      congr 4
      refine List.map_congr_left fun j _=>?_
      simp only [prs,lo]
      split<;>omega
  · rintro x H1 ⟨rfl,rfl⟩ J
    simp (disch:=(first|omega|(simp only [qbf]<;>omega)|(simp only [qbd];done)|rfl)) only [zA,zB,zC,zD,zF,zG,zH,Nat.reduceEqDiff,Nat.reduceLT,Nat.reduceLeDiff,↓reduceIte,w1]
    have hpp:=Pre.new H [AB.cells (((List.range (n+1)).map (prs n (lw wss) wss.length)).map nv) 3 none false]
    obtain⟨HB,hHB⟩:∃ HB,HB=H++[AB.cells (((List.range (n+1)).map (prs n (lw wss) wss.length)).map nv) 3 none false]:=⟨_,rfl⟩
    have hbl:HB[H.length]? = some (.cells (((List.range (n+1)).map (prs n (lw wss) wss.length)).map nv) 3 none false):=by rw [hHB];simp
    have hHl:H.length≤HB.length:=by rw [hHB];simp
    rw [←hHB] at hpp ⊢
    refine loopV2.nat (n+1) (fun k out x H'=>x=nv k∧Pre HB H'∧AccF HB H' out ((List.range k).map fun j=>(rN (prs n (lw wss) wss.length j) wss.length,rD (prs n (lw wss) wss.length j) wss.length))) ⟨rfl,Pre.refl _,AccF.nil⟩ ?_ ?_
    · rintro k out x H2 hk ⟨rfl,hp,ho⟩ J2 hJ2
      have hrowp:Row H2 (.slice (some ⟨H.length,0,none⟩) (n+1) (n+1)) (((List.range (n+1)).map (prs n (lw wss) wss.length)).map nv):=Row.of (hp.get hbl) (by simp) (Nat.le_refl _)
      obtain⟨p1,p2,p3,p4⟩:=hrowp.all 0
      have p2':=p2 k (by simpa using hk)
      have p3':=p3 k (by simpa using hk)
      rw [getD_map hk] at p3'
      have hb:=prs_le (n:=n) (j:=k) (w:=lw wss) hm2
      simp (disch:=(first|omega|(simp only [qbf]<;>omega)|(simp only [qbd];done)|rfl)) only [zA,zB,zC,zD,zF,zG,zH,Nat.reduceEqDiff,Nat.reduceLT,Nat.reduceLeDiff,↓reduceIte,hk,p2',p3',w1]
      refine FZ.use (rmake_c (n:=(prs n (lw wss) wss.length k:Nat)) (d:=(wss.length:Nat)) (by omega) (by omega)) ?_
      rw [makeF_nat hm (by omega) (by omega)]
      have eu:frv (rN (prs n (lw wss) wss.length k) wss.length) (rD (prs n (lw wss) wss.length k) wss.length)=.agg #[zv (rN (prs n (lw wss) wss.length k) wss.length),zv (rD (prs n (lw wss) wss.length k) wss.length)]:=rfl
      rw [eu]
      simp (disch:=(first|omega|(simp only [qbf]<;>omega)|(simp only [qbd];done)|rfl)) only [zA,zB,zC,zD,zF,zG,zH,Nat.reduceEqDiff,Nat.reduceLT,Nat.reduceLeDiff,↓reduceIte]
      rw [stB2 rfl rfl]
      have hx2:∀ a b:Int,(qbv [nv 0,nv 0] [(0,2)] [.agg #[zv a,zv b]])=some [zv a,zv b]:=fun a b=>rfl
      have hk1:k+1<1000:=by omega
      obtain⟨out',H8,e1,ho',hp',hl'⟩:=(ho.pre (Pre.new H2 [AB.cells [zv (rN (prs n (lw wss) wss.length k) wss.length),zv (rD (prs n (lw wss) wss.length k) wss.length)] 70 none false])).app1 (H:=H2++[AB.cells [zv (rN (prs n (lw wss) wss.length k) wss.length),zv (rD (prs n (lw wss) wss.length k) wss.length)] 70 none false]) (by have:=hp.len;simp;omega) (rN (prs n (lw wss) wss.length k) wss.length) (rD (prs n (lw wss) wss.length k) wss.length) (by simp;omega)
      simp only [List.append_assoc,List.cons_append,List.nil_append,List.length_append,List.length_cons,List.length_nil,Nat.zero_add] at e1
      simp (disch:=(first|omega|(simp only [qbf]<;>omega)|(simp only [qbd];done)|rfl)) only [zA,zB,zC,zD,zF,zG,zH,Nat.reduceEqDiff,Nat.reduceLT,Nat.reduceLeDiff,↓reduceIte,hx2,e1,hk1]
      refine hJ2 _ _ _ ⟨rfl,fun b hb=>?_,?_⟩
      · rw [hp' b hb,List.getElem?_append_left (by have:=hp.len;omega)];exact hp b hb
      · rw [List.range_succ,List.map_append];exact ho'
    · rintro out x H2 ⟨rfl,hp,ho⟩ J2
      have hnn:¬n+1<n+1:=Nat.lt_irrefl _
      simp (disch:=(first|omega|(simp only [qbf]<;>omega)|(simp only [qbd];done)|rfl)) only [zA,zB,zC,zD,zF,zG,zH,Nat.reduceEqDiff,Nat.reduceLT,Nat.reduceLeDiff,↓reduceIte,hnn]
      exact⟨hpp.trans hp,out,rfl,ho.mono hHl⟩
end
end Go.Sim

namespace Go.Sim
open Go Go.Proofs Kr
def frR (a:Int) (m:Nat):Value:=frv (rN a m) (rD a m)
theorem qmk {a:Int} {m:Nat} (ha:a.natAbs≤4611686018427387904) (hm2:m≤4611686018427387904):finF a m=.tuple [frR a m,nv 0].toArray:=by
  have hle:=red_le (a:=a) (m:=m)
  have hc:(rN a m).natAbs≤4611686018427387904∧rD a m≤4611686018427387904:=⟨by omega,by omega⟩
  unfold finF
  rw [if_pos hc];rfl
theorem finF_eq {a b:Int} {m l:Nat} (hm:0<m) (hl:0<l) (h:a*l=b*m):finF a m=finF b l:=by
  obtain⟨h1,h2⟩:=red_eq hm hl h
  unfold finF
  rw [h1,h2]
theorem frok {a:Int} {m:Nat} (hm:0<m) (ha:a.natAbs≤4611686018427387904) (hm2:m≤4611686018427387904):FrOK (rN a m) (rD a m):=by
  obtain⟨_,h2,h3⟩:=qm0 (a:=a) hm
  have hle:=red_le (a:=a) (m:=m)
  exact⟨h3,by omega,by omega,h2⟩
theorem qdq {a b:Int} {x y:Nat} (h1:a.natAbs≤x) (h2:b.natAbs≤y):(a*b).natAbs≤x*y:=by
  rw [Int.natAbs_mul];exact Nat.mul_le_mul h1 h2
section
variable {H:AH} {m:Nat}
theorem radd_r {a b:Int} (hm:0<m) (hm2:m≤4096) (ha:a.natAbs≤1125899906842624) (hb:b.natAbs≤1125899906842624) :
    FN Tryz.prog 163 [frR a m,frR b m] H (fun r H'=>r=.tuple [frR (a+b) m,nv 0].toArray∧H'=H):=by
  obtain⟨e1,_,p1⟩:=qm0 (a:=a) hm
  obtain⟨e2,_,p2⟩:=qm0 (a:=b) hm
  have l1:=red_le (a:=a) (m:=m)
  have l2:=red_le (a:=b) (m:=m)
  refine FN.mono (radd_c (frok hm (by omega) (by omega)) (frok hm (by omega) (by omega)) ?_) ?_
  · intro y hy hy2
    have b1:(rN a m*(rD b m / Nat.gcd (rD a m) (rD b m):Nat)).natAbs≤1125899906842624*4096:=by
      refine qdq (by omega) ?_
      have:=Nat.div_le_self (rD b m) (Nat.gcd (rD a m) (rD b m))
      rw [Int.natAbs_natCast];omega
    have b2:(rN b m*(rD a m / Nat.gcd (rD a m) (rD b m):Nat)).natAbs≤1125899906842624*4096:=by
      refine qdq (by omega) ?_
      have:=Nat.div_le_self (rD a m) (Nat.gcd (rD a m) (rD b m))
      rw [Int.natAbs_natCast];omega
    generalize rN a m*(rD b m / Nat.gcd (rD a m) (rD b m):Nat)=x at *
    generalize rN b m*(rD a m / Nat.gcd (rD a m) (rD b m):Nat)=z at *
    have ht:(x+z).natAbs<18446744073709551616:=by omega
    rw [Nat.div_eq_of_lt ht,Nat.mod_eq_of_lt ht,Nat.zero_mod]
    exact div_short ht hy
  · rintro r H' ⟨rfl,rfl⟩
    refine⟨?_,rfl⟩
    rw [finF_eq (Nat.mul_pos p1 p2) hm (b:=a+b),qmk (by omega) (by omega)]
    rw [Int.add_mul,Int.mul_right_comm,e1,Int.mul_right_comm (rN b m),e2,Int.natCast_mul,Int.add_mul]
    congr 1
    · rw [Int.mul_assoc]
    · rw [Int.mul_assoc,Int.mul_comm (rD b m:Int)]
theorem rmul_r {a K:Int} (hm:0<m) (hm2:m≤4096) (ha:a.natAbs≤1048576) (hb:K.natAbs≤1073741824) :
    FN Tryz.prog 164 [frR a m,frv K 1] H (fun r H'=>r=.tuple [frR (a*K) m,nv 0].toArray∧H'=H):=by
  obtain⟨e1,_,p1⟩:=qm0 (a:=a) hm
  have h:=rmul_c (H:=H) (n1:=rN a m) (d1:=rD a m) (n2:=K) (d2:=1) (frok hm (by omega) (by omega)) ⟨by omega,by omega,by omega,Nat.gcd_one_right _⟩
  refine FN.mono h ?_
  rintro r H' ⟨rfl,rfl⟩
  refine⟨?_,rfl⟩
  have hl:=qdq ha hb
  rw [finF_eq (Nat.mul_pos p1 (by omega)) hm (b:=a*K),qmk (by omega) (by omega)]
  rw [Nat.mul_one,Int.mul_right_comm,e1,Int.mul_right_comm]
theorem rdiv_r {a:Int} {b:Nat} (hm:0<m) (hm2:m≤4096) (ha:a.natAbs≤1125899906842624) (hb0:0<b) (hb:b≤1125899906842624) :
    FN Tryz.prog 165 [frR a m,frR b m] H (fun r H'=>r=.tuple [frR a b,nv 0].toArray∧H'=H):=by
  obtain⟨e1,_,p1⟩:=qm0 (a:=a) hm
  obtain⟨e2,_,p2⟩:=qm0 (a:=(b:Int)) hm
  have hs:=red_sign (a:=(b:Int)) hm
  have h:=rdiv_c (H:=H) (frok (a:=a) hm (by omega) (by omega)) (frok (a:=(b:Int)) hm (by rw [Int.natAbs_natCast];omega) (by omega))
  refine FN.mono h ?_
  rintro r H' ⟨rfl,rfl⟩
  refine⟨?_,rfl⟩
  have h1:¬rN (b:Int) m=0:=by rw [hs.2];omega
  have h2:¬rN (b:Int) m<0:=by rw [hs.1];omega
  unfold divF
  rw [if_neg h1,if_neg h2]
  have h3:((rN (b:Int) m).natAbs:Int)=rN (b:Int) m:=by omega
  rw [finF_eq (Nat.mul_pos p1 (by omega)) hb0 (b:=a),qmk (by omega) (by omega)]
  refine Int.eq_of_mul_eq_mul_right (show (m:Int)≠0 by omega) ?_
  rw [Int.natCast_mul,h3]
  calc rN a m*(rD (b:Int) m:Int)*b*m=(rN a m*m)*((b:Int)*rD (b:Int) m):=by simp only [Int.mul_assoc,Int.mul_left_comm,Int.mul_comm]
    _=(a*rD a m)*(rN (b:Int) m*m):=by rw [e1,e2]
    _=a*((rD a m:Int)*rN (b:Int) m)*m:=by simp only [Int.mul_assoc]
end
end Go.Sim

namespace Go.Sim
open Go Go.Proofs Kr
theorem xp_dfr {l:List FuncId} {g:FuncId} {f c:Array Value} (h:l.contains g=true):qbc (.dfr l) [.func (.func g) f c]=some undef:=by
  simp [qbc];simpa using h
def tk (q n:Nat) (A:Nat→Nat) (k i:Nat):Int:=sm i fun j=>A j*Kc q n k j
def tfs (q n m:Nat) (A:Nat→Nat) (k:Nat):List (Int×Nat):=(List.range k).map fun k=>(rN (tk q n A k (n+1)) (m*m),rD (tk q n A k (n+1)) (m*m))
def afs (n m:Nat) (A:Nat→Nat):List (Int×Nat):=(List.range (n+1)).map fun j=>(rN (A j) m,rD (A j) m)
theorem afs_get {n m:Nat} {A:Nat→Nat} {j:Nat} (hj:j<n+1):(afs n m A).getD j (0,0)=(rN (A j) m,rD (A j) m):=by
  simp [afs,List.getD_eq_getElem?_getD,hj]
theorem sumN_le {A:Nat→Nat} {B:Nat}:∀ i,(∀ j,j<i→A j≤B)→sumN i A≤i*B:=by
  intro i
  induction i with
  | zero=>intro _;simp [sumN]
  | succ i ih =>
    intro h
    have h1:=ih fun j hj=>h j (by omega)
    have h2:=h i (by omega)
    simp only [sumN]
    rw [Nat.add_mul];omega
theorem tk_le {q n:Nat} {A:Nat→Nat} {k:Nat} (hq:2≤q∧q≤16) (hn:n≤24) (hk:k≤n) (hf:q ^ n≤2 ^ 30) (hA:∀ j,j≤n→A j≤8256):∀ i,i≤n+1→(tk q n A k i).natAbs≤i*(8256*1073741824):=by
  intro i
  induction i with
  | zero=>intro _;simp [tk,sm]
  | succ i ih =>
    intro hi
    have h1:=ih (by omega)
    have h2:(Kc q n k i).natAbs≤1073741824:=Nat.le_trans (sum_le hq hn hk (by omega) (Nat.le_refl _)) hf
    have h3:=qdq (a:=(A i:Int)) (b:=Kc q n k i) (x:=8256) (y:=1073741824) (by have:=hA i (by omega);omega) h2
    have e:tk q n A k (i+1)=tk q n A k i+A i*Kc q n k i:=rfl
    rw [e,Nat.add_mul]
    omega
section
variable {H:AH}
theorem tturned_c {q n m:Nat} {A:Nat→Nat} {v:Value} (hq:2≤q∧q≤16) (hn:n≤24) (hf:q ^ n≤2 ^ 30) (hm:0<m) (hm2:m≤64) (hA:∀ j,j≤n→A j≤8256) (hA0:0<A 0) (hS:sumN (n+1) A=m*m) (hv:RowF H v (afs n m A)) :
    FN Tryz.prog 106 [nv q,nv n,v] H (fun r H'=>Pre H H'∧∃ u,r=.tuple [u,nv 0].toArray∧AccF H H' u (tfs q n m A (n+1))):=by
  refine g106_of ?_
  unfold g106
  have hfl:(afs n m A).length=n+1:=by simp [afs]
  obtain⟨w1,w2,w3,w4,w5,w6,w7⟩:=hv.all
  rw [hfl] at w1 w2 w3 w4 w5 w6 w7
  simp (disch:=(first|omega|(simp only [qbf]<;>omega)|(simp only [qbd];done)|rfl)) only [zA,zB,zC,zD,zF,zG,zH,Nat.reduceEqDiff,Nat.reduceLT,Nat.reduceLeDiff,↓reduceIte]
  refine FZ.use (qrn (q:=q) (n:=n)) ?_
  rw [decide_eq_true (show 2≤(q:Int)∧(q:Int)≤16∧0≤(n:Int)∧(n:Int)≤24 by omega)]
  simp (disch:=(first|omega|(simp only [qbf]<;>omega)|(simp only [qbd];done)|rfl)) only [zA,zB,zC,zD,zF,zG,zH,Nat.reduceEqDiff,Nat.reduceLT,Nat.reduceLeDiff,↓reduceIte]
  refine FZ.use (fits_c hq hn (L:=30) (by omega)) ?_
  rw [decide_eq_true hf]
  have hn1:n+1<1000:=by omega
  simp (disch:=(first|omega|(simp only [qbf]<;>omega)|(simp only [qbd];done)|rfl)) only [zA,zB,zC,zD,zF,zG,zH,Nat.reduceEqDiff,Nat.reduceLT,Nat.reduceLeDiff,↓reduceIte,w1,hn1]
  obtain⟨X,hX⟩:∃ X,X=H++[AB.cells [.slice none 0 0] 61 none false,AB.cells [nv 0] 35 none false]:=⟨_,rfl⟩
  have hXl:X.length=H.length+2:=by rw [hX];simp
  have hX0:X[H.length]? = some (.cells [.slice none 0 0] 61 none false):=by rw [hX];simp
  have hX1:X[H.length+1]? = some (.cells [nv 0] 35 none false):=by rw [hX];simp
  have hHX:Pre H X:=by rw [hX];exact Pre.new _ _
  rw [←hX]
  refine loopV2.nat (n+1) (fun i z x H'=>x=nv i∧Pre X H'∧z=.bool (decide (i=0))) ⟨rfl,Pre.refl _,rfl⟩ ?_ ?_
  · rintro i z x H1 hi ⟨rfl,hp,rfl⟩ J hJ
    have hok:=frok (a:=(A i:Int)) (m:=m) hm (by have:=hA i (by omega);omega) (by omega)
    have hle:=red_le (a:=(A i:Int)) (m:=m)
    have hAi:=hA i (by omega)
    obtain⟨_,w2,w3,w4,w5,w6,w7⟩:=(hv.pre (hHX.trans hp)).all
    rw [hfl] at w2 w3 w4 w5 w6 w7
    have w2':=w2 i hi
    have w5':=w5 i [] hi
    rw [afs_get hi,List.append_nil] at w5'
    have eu:frv (rN (A i) m) (rD (A i) m)=.agg #[zv (rN (A i) m),zv (rD (A i) m)]:=rfl
    simp only [eu] at w5'
    simp (disch:=(first|omega|(simp only [qbf]<;>omega)|(simp only [qbd];done)|rfl)) only [zA,zB,zC,zD,zF,zG,zH,Nat.reduceEqDiff,Nat.reduceLT,Nat.reduceLeDiff,↓reduceIte,hi,w2',w5']
    rw [stB2 rfl rfl]
    simp (disch:=(first|omega|(simp only [qbf]<;>omega)|(simp only [qbd];done)|rfl)) only [zA,zB,zC,zD,zF,zG,zH,Nat.reduceEqDiff,Nat.reduceLT,Nat.reduceLeDiff,↓reduceIte]
    rw [←eu]
    refine FZ.use (fvalid_c (n:=rN (A i) m) (d:=rD (A i) m) (by omega) (by omega)) ?_
    have hnn:¬rN (A i) m<0:=by rw [(red_sign hm).1];omega
    have hzz:rN (A i) m=0↔A i=0:=by rw [(red_sign hm).2];omega
    have hv1:decide (1≤(rD (A i) m:Int)∧(rD (A i) m:Int)≤4611686018427387904∧-4611686018427387904≤rN (A i) m∧rN (A i) m≤4611686018427387904∧Nat.gcd (rN (A i) m).natAbs ((rD (A i) m:Nat):Int).natAbs=1)=true:=by
      rw [decide_eq_true]
      exact⟨by have:=hok.pos;omega,by have:=hok.le;omega,by omega,by omega,by rw [Int.natAbs_natCast];exact hok.cop⟩
    rw [hv1]
    have e1:xbin .lss 0 (zv (rN (A i) m)) (nv 0)=some (.bool false):=by simp [xbin];omega
    have e2:xbin .gtr 0 (zv (rN (A i) m)) (nv 1048576)=some (.bool false):=by simp [xbin];omega
    have e3:xbin .gtr 0 (zv (rD (A i) m)) (nv 1048576)=some (.bool false):=by simp [xbin];omega
    have e4:xbin .eql 0 (zv (rN (A i) m)) (nv 0)=some (.bool (decide (A i=0))):=by
      simp only [xbin,if_true];congr 2;rw [Bool.eq_iff_iff];simp [hzz]
    have hi1:i+1<1000:=by omega
    by_cases h0:i=0
    · subst h0
      have e5:decide (A 0=0)=false:=by rw [decide_eq_false];omega
      rw [e5] at e4
      simp (disch:=(first|omega|(simp only [qbf]<;>omega)|(simp only [qbd];done)|rfl)) only [zA,zB,zC,zD,zF,zG,zH,Nat.reduceEqDiff,Nat.reduceLT,Nat.reduceLeDiff,↓reduceIte,e1,e2,e3,e4,hi1]
      exact hJ _ _ _ ⟨rfl,hp.app _,rfl⟩
    · have e5:decide (i=0)=false:=by rw [decide_eq_false];exact h0
      simp (disch:=(first|omega|(simp only [qbf]<;>omega)|(simp only [qbd];done)|rfl)) only [zA,zB,zC,zD,zF,zG,zH,Nat.reduceEqDiff,Nat.reduceLT,Nat.reduceLeDiff,↓reduceIte,e1,e2,e3,e5,hi1]
      exact hJ _ _ _ ⟨rfl,hp.app _,by rw [decide_eq_false];omega⟩
  rintro z x H1 ⟨rfl,hp,rfl⟩ J
  have hz:decide (n+1=0)=false:=by rw [decide_eq_false];omega
  have hfn:qbc (.fn 161 0 2) [.pointer (some ⟨H.length,0,none⟩),.pointer (some ⟨H.length+1,0,none⟩)]=some (.func (.func 161) #[] #[.pointer (some ⟨H.length,0,none⟩),.pointer (some ⟨H.length+1,0,none⟩)]):=rfl
  have hdf:qbc (.dfr [161]) [.func (.func 161) #[] #[.pointer (some ⟨H.length,0,none⟩),.pointer (some ⟨H.length+1,0,none⟩)]]=some undef:=xp_dfr rfl
  have hx1:(qbv [nv 0,nv 0] [(1,1)] [nv 1])=some [nv 0,nv 1]:=rfl
  simp (disch:=(first|omega|(simp only [qbf]<;>omega)|(simp only [qbd];done)|rfl)) only [zA,zB,zC,zD,zF,zG,zH,Nat.reduceEqDiff,Nat.reduceLT,Nat.reduceLeDiff,↓reduceIte,hz,hfn,hdf,hx1]
  rw [stB2 rfl rfl]
  simp (disch:=(first|omega|(simp only [qbf]<;>omega)|(simp only [qbd];done)|rfl)) only [zA,zB,zC,zD,zF,zG,zH,Nat.reduceEqDiff,Nat.reduceLT,Nat.reduceLeDiff,↓reduceIte,w1]
  have eu:∀ (a:Int) (m:Nat),frR a m=.agg #[zv (rN a m),zv (rD a m)]:=fun _ _=>rfl
  have hHH1:Pre H H1:=hHX.trans hp
  have hlH1:H.length+2≤H1.length:=by have:=hp.len;omega
  have hm4:m≤4096:=by omega
  have hSle:∀ i,i≤n+1→sumN i A≤i*8256:=fun i hi=>sumN_le i fun j hj=>hA j (by omega)
  refine loopV1.nat (n+1) (fun i x H'=>x=nv i∧Pre H1 H'∧H'[H1.length]? = some (.cells [zv (rN (sumN i A:Nat) m),zv (rD (sumN i A:Nat) m)] 70 none false)) ⟨rfl,Pre.new _ _,?_⟩ ?_ ?_
  · have h0:=qh4 hm
    have e1:rN ((sumN 0 A:Nat):Int) m=0:=h0.1
    have e2:rD ((sumN 0 A:Nat):Int) m=1:=h0.2
    rw [e1,e2]
    simp
  · rintro i x H2 hi ⟨rfl,hp2,hmc⟩ J2 hJ2
    have hAi:=hA i (by omega)
    have hSi:=hSle i (by omega)
    obtain⟨_,w2,w3,w4,w5,w6,w7⟩:=(hv.pre (hHH1.trans hp2)).all
    rw [hfl] at w2 w3 w4 w5 w6 w7
    have w2':=w2 i hi
    have w5':=w5 i [] hi
    rw [afs_get hi,List.append_nil] at w5'
    have eu':frv (rN (A i) m) (rD (A i) m)=.agg #[zv (rN (A i) m),zv (rD (A i) m)]:=rfl
    simp only [eu'] at w5'
    have hmcY:∀ Y,(H2++Y)[H1.length]? = some (.cells [zv (rN (sumN i A:Nat) m),zv (rD (sumN i A:Nat) m)] 70 none false):=fun Y=>qc4 hmc Y
    have hi1:i+1<1000:=by omega
    simp (disch:=(first|omega|(simp only [qbf]<;>omega)|(simp only [qbd];done)|rfl)) only [zA,zB,zC,zD,zF,zG,zH,Nat.reduceEqDiff,Nat.reduceLT,Nat.reduceLeDiff,↓reduceIte,hi,w2',w5']
    rw [stB2 rfl rfl]
    simp (disch:=(first|omega|(simp only [qbf]<;>omega)|(simp only [qbd];done)|rfl)) only [zA,zB,zC,zD,zF,zG,zH,Nat.reduceEqDiff,Nat.reduceLT,Nat.reduceLeDiff,↓reduceIte,hmcY]
    rw [←eu,←eu]
    refine FZ.use (radd_r hm hm4 (a:=(sumN i A:Nat)) (b:=(A i:Nat)) (by omega) (by omega)) ?_
    simp (disch:=(first|omega|(simp only [qbf]<;>omega)|(simp only [qbd];done)|rfl)) only [zA,zB,zC,zD,zF,zG,zH,Nat.reduceEqDiff,Nat.reduceLT,Nat.reduceLeDiff,↓reduceIte]
    refine FZ.use must_c ?_
    have hS1:((sumN i A:Nat):Int)+(A i:Nat)=((sumN (i+1) A:Nat):Int):=rfl
    rw [hS1]
    have e3:frv (rN (sumN (i+1) A:Nat) m) (rD (sumN (i+1) A:Nat) m)=.agg #[zv (rN (sumN (i+1) A:Nat) m),zv (rD (sumN (i+1) A:Nat) m)]:=rfl
    rw [e3]
    simp (disch:=(first|omega|(simp only [qbf]<;>omega)|(simp only [qbd];done)|rfl)) only [zA,zB,zC,zD,zF,zG,zH,Nat.reduceEqDiff,Nat.reduceLT,Nat.reduceLeDiff,↓reduceIte,hmcY]
    rw [stB2 rfl rfl]
    simp (disch:=(first|omega|(simp only [qbf]<;>omega)|(simp only [qbd];done)|rfl)) only [zA,zB,zC,zD,zF,zG,zH,Nat.reduceEqDiff,Nat.reduceLT,Nat.reduceLeDiff,↓reduceIte,hi1]
    have hl2:=qbr hmc
    refine hJ2 _ _ ⟨rfl,fun b hb=>?_,?_⟩
    · rw [List.getElem?_set_ne (by omega),List.getElem?_append_left (by omega)];exact hp2 b hb
    · rw [List.getElem?_set_self (by simp;omega)]
  rintro x H2 ⟨rfl,hp2,hmc⟩ J2
  rw [hS] at hmc
  have hnn:¬n+1<n+1:=Nat.lt_irrefl _
  simp (disch:=(first|omega|(simp only [qbf]<;>omega)|(simp only [qbd];done)|rfl)) only [zA,zB,zC,zD,zF,zG,zH,Nat.reduceEqDiff,Nat.reduceLT,Nat.reduceLeDiff,↓reduceIte,hnn,w1,hn1]
  obtain⟨HM,hHM⟩:∃ HM:AH,HM.length=H1.length+1:=⟨H1++[.dead],by simp⟩
  have hl2:=qbr hmc
  refine loopV1.nat (n+1) (fun k x H'=>x=nv k∧(∀ b,b<H1.length→b≠H.length→H'[b]? = H1[b]?)∧H'[H1.length]? = some (.cells [zv (rN (m*m:Nat) m),zv (rD (m*m:Nat) m)] 70 none false)∧∃ u,H'[H.length]? = some (.cells [u] 61 none false)∧H1.length+1≤H'.length∧AccF HM H' u (tfs q n m A k)) ⟨rfl,fun b hb _=>hp2 b hb,hmc,.slice none 0 0,by rw [hp2 _ (by omega)];exact hp.get hX0,by omega,AccF.nil⟩ ?_ ?_
  · rintro k x H4 hk ⟨rfl,ho4,hm4c,u,hu,hl4,hacc⟩ J3 hJ3
    have hPH4:Pre H H4:=fun b hb=>by rw [ho4 b (by omega) (by omega)];exact hHH1 b hb
    have hkn:k≤n:=by omega
    have hk1:k+1<1000:=by omega
    simp (disch:=(first|omega|(simp only [qbf]<;>omega)|(simp only [qbd];done)|rfl)) only [zA,zB,zC,zD,zF,zG,zH,Nat.reduceEqDiff,Nat.reduceLT,Nat.reduceLeDiff,↓reduceIte,hk,hx1]
    rw [stB2 rfl rfl]
    simp (disch:=(first|omega|(simp only [qbf]<;>omega)|(simp only [qbd];done)|rfl)) only [zA,zB,zC,zD,zF,zG,zH,Nat.reduceEqDiff,Nat.reduceLT,Nat.reduceLeDiff,↓reduceIte,w1]
    refine loopV1.nat (n+1) (fun i x H'=>x=nv i∧Pre H4 H'∧H'[H4.length]? = some (.cells [zv (rN (tk q n A k i) m),zv (rD (tk q n A k i) m)] 70 none false)) ⟨rfl,Pre.new _ _,?_⟩ ?_ ?_
    · have h0:=qh4 hm
      have e1:rN (tk q n A k 0) m=0:=h0.1
      have e2:rD (tk q n A k 0) m=1:=h0.2
      rw [e1,e2]
      simp
    · rintro i x H5 hi ⟨rfl,hp5,hsc⟩ J4 hJ4
      have hAi:=hA i (by omega)
      have hin:i≤n:=by omega
      have hti:=tk_le hq hn hkn hf hA i (by omega)
      have hti1:=tk_le hq hn hkn hf hA (i+1) (by omega)
      have hK:(Kc q n k i).natAbs≤1073741824:=Nat.le_trans (sum_le hq hn hkn hin (Nat.le_refl _)) hf
      obtain⟨_,w2,w3,w4,w5,w6,w7⟩:=(hv.pre (hPH4.trans hp5)).all
      rw [hfl] at w2 w3 w4 w5 w6 w7
      have w2':=w2 i hi
      have w5':=w5 i [] hi
      rw [afs_get hi,List.append_nil] at w5'
      have eu':frv (rN (A i) m) (rD (A i) m)=.agg #[zv (rN (A i) m),zv (rD (A i) m)]:=rfl
      simp only [eu'] at w5'
      have hscY:∀ Y,(H5++Y)[H4.length]? = some (.cells [zv (rN (tk q n A k i) m),zv (rD (tk q n A k i) m)] 70 none false):=fun Y=>qc4 hsc Y
      have hi1:i+1<1000:=by omega
      simp (disch:=(first|omega|(simp only [qbf]<;>omega)|(simp only [qbd];done)|rfl)) only [zA,zB,zC,zD,zF,zG,zH,Nat.reduceEqDiff,Nat.reduceLT,Nat.reduceLeDiff,↓reduceIte,hi,w2',w5']
      rw [stB2 rfl rfl]
      simp (disch:=(first|omega|(simp only [qbf]<;>omega)|(simp only [qbd];done)|rfl)) only [zA,zB,zC,zD,zF,zG,zH,Nat.reduceEqDiff,Nat.reduceLT,Nat.reduceLeDiff,↓reduceIte,hscY]
      refine FZ.use (value_c hq hn hkn hin (by omega)) ?_
      have hxK:(qbv [nv 0,nv 0] [(0,1),(1,1)] [zv (Kc q n k i),nv 1])=some [zv (Kc q n k i),nv 1]:=rfl
      simp (disch:=(first|omega|(simp only [qbf]<;>omega)|(simp only [qbd];done)|rfl)) only [zA,zB,zC,zD,zF,zG,zH,Nat.reduceEqDiff,Nat.reduceLT,Nat.reduceLeDiff,↓reduceIte,hscY,hxK]
      rw [←eu ((A i:Nat):Int) m]
      rw [show Value.agg #[zv (Kc q n k i),nv 1]=frv (Kc q n k i) 1 from rfl]
      refine FZ.use (rmul_r hm hm4 (a:=(A i:Nat)) (K:=Kc q n k i) (by omega) hK) ?_
      simp (disch:=(first|omega|(simp only [qbf]<;>omega)|(simp only [qbd];done)|rfl)) only [zA,zB,zC,zD,zF,zG,zH,Nat.reduceEqDiff,Nat.reduceLT,Nat.reduceLeDiff,↓reduceIte,hscY]
      rw [show frR ((A i:Nat)*Kc q n k i) m=frv (rN ((A i:Nat)*Kc q n k i) m) (rD ((A i:Nat)*Kc q n k i) m) from rfl]
      refine FZ.use must_c ?_
      rw [show frv (rN ((A i:Nat)*Kc q n k i) m) (rD ((A i:Nat)*Kc q n k i) m)=frR ((A i:Nat)*Kc q n k i) m from rfl]
      simp (disch:=(first|omega|(simp only [qbf]<;>omega)|(simp only [qbd];done)|rfl)) only [zA,zB,zC,zD,zF,zG,zH,Nat.reduceEqDiff,Nat.reduceLT,Nat.reduceLeDiff,↓reduceIte,hscY]
      have hAK:=qdq (a:=(A i:Int)) (b:=Kc q n k i) (x:=8256) (y:=1073741824) (by omega) hK
      have hS1:tk q n A k i+(A i:Nat)*Kc q n k i=tk q n A k (i+1):=rfl
      have hstep:∀ G:AH,FN Tryz.prog 163 [frR (tk q n A k i) m,frR ((A i:Nat)*Kc q n k i) m] G (fun r H'=>r=.tuple [frR (tk q n A k (i+1)) m,nv 0].toArray∧H'=G):=fun G=>by
        rw [←hS1];exact radd_r hm hm4 (by omega) (by omega)
      rw [←eu (tk q n A k i) m]
      refine FZ.use (hstep _) ?_
      simp (disch:=(first|omega|(simp only [qbf]<;>omega)|(simp only [qbd];done)|rfl)) only [zA,zB,zC,zD,zF,zG,zH,Nat.reduceEqDiff,Nat.reduceLT,Nat.reduceLeDiff,↓reduceIte,hscY]
      rw [show frR (tk q n A k (i+1)) m=frv (rN (tk q n A k (i+1)) m) (rD (tk q n A k (i+1)) m) from rfl]
      refine FZ.use must_c ?_
      rw [show frv (rN (tk q n A k (i+1)) m) (rD (tk q n A k (i+1)) m)=.agg #[zv (rN (tk q n A k (i+1)) m),zv (rD (tk q n A k (i+1)) m)] from rfl]
      simp (disch:=(first|omega|(simp only [qbf]<;>omega)|(simp only [qbd];done)|rfl)) only [zA,zB,zC,zD,zF,zG,zH,Nat.reduceEqDiff,Nat.reduceLT,Nat.reduceLeDiff,↓reduceIte,hscY]
      rw [stB2 rfl rfl]
      simp (disch:=(first|omega|(simp only [qbf]<;>omega)|(simp only [qbd];done)|rfl)) only [zA,zB,zC,zD,zF,zG,zH,Nat.reduceEqDiff,Nat.reduceLT,Nat.reduceLeDiff,↓reduceIte,hi1]
      have hl5:=qbr hsc
      refine hJ4 _ _ ⟨rfl,fun b hb=>?_,?_⟩
      · rw [List.getElem?_set_ne (by omega),List.getElem?_append_left (by omega)];exact hp5 b hb
      · rw [List.getElem?_set_self (by simp;omega)]
    · rintro x H5 ⟨rfl,hp5,hsc⟩ J4
      have hu5:=hp5.get hu
      have hm5:=hp5.get hm4c
      have hl5:=qbr hsc
      have hacc5:=hacc.pre hp5
      have hone:=hacc5.row.one
      have hcell:=hacc5.row.cells
      have htn:=tk_le hq hn hkn hf hA (n+1) (Nat.le_refl _)
      have hmm:0<m*m:=Nat.mul_pos hm hm
      have hmm2:m*m≤64*64:=Nat.mul_le_mul hm2 hm2
      simp (disch:=(first|omega|(simp only [qbf]<;>omega)|(simp only [qbd];done)|rfl)) only [zA,zB,zC,zD,zF,zG,zH,Nat.reduceEqDiff,Nat.reduceLT,Nat.reduceLeDiff,↓reduceIte,hnn,hu5,hsc,hm5]
      rw [←eu,←eu]
      refine FZ.use (rdiv_r (a:=tk q n A k (n+1)) (b:=m*m) hm hm4 (by omega) hmm (by omega)) ?_
      simp (disch:=(first|omega|(simp only [qbf]<;>omega)|(simp only [qbd];done)|rfl)) only [zA,zB,zC,zD,zF,zG,zH,Nat.reduceEqDiff,Nat.reduceLT,Nat.reduceLeDiff,↓reduceIte,hu5]
      rw [show frR (tk q n A k (n+1)) (m*m)=frv (rN (tk q n A k (n+1)) (m*m)) (rD (tk q n A k (n+1)) (m*m)) from rfl]
      refine FZ.use must_c ?_
      have hx2:(qbv [nv 0,nv 0] [(0,2)] [frv (rN (tk q n A k (n+1)) (m*m)) (rD (tk q n A k (n+1)) (m*m))])=some [zv (rN (tk q n A k (n+1)) (m*m)),zv (rD (tk q n A k (n+1)) (m*m))]:=rfl
      have hHM5:HM.length≤H5.length:=by have:=hp5.len;omega
      have hlk:(tfs q n m A k).length=k:=by simp [tfs]
      obtain⟨u',H8,e8,ho8,hp8,hl8⟩:=hacc5.app1 hHM5 (rN (tk q n A k (n+1)) (m*m)) (rD (tk q n A k (n+1)) (m*m)) (by rw [hlk];omega)
      have hu5Y:∀ Y,(H5++Y)[H.length]? = some (.cells [u] 61 none false):=fun Y=>qc4 hu5 Y
      have hu8:H8[H.length]? = some (.cells [u] 61 none false):=by rw [hp8 _ (by omega)];exact hu5
      have hst:=qjm (k:=0) (v:=u') hu8 (by simp) ho8.row.cells ho8.row.one
      rw [show (List.set [u] 0 u')=[u'] from rfl] at hst
      simp (disch:=(first|omega|(simp only [qbf]<;>omega)|(simp only [qbd];done)|rfl)) only [zA,zB,zC,zD,zF,zG,zH,Nat.reduceEqDiff,Nat.reduceLT,Nat.reduceLeDiff,↓reduceIte,hu5,hu5Y,hx2,e8,hst,hk1]
      refine hJ3 _ _ ⟨rfl,fun b hb hne=>?_,?_,u',?_,by simp;omega,?_⟩
      · rw [List.getElem?_set_ne (Ne.symm hne),hp8 b (by omega),hp5 b (by omega)];exact ho4 b hb hne
      · rw [List.getElem?_set_ne (by omega),hp8 _ (by omega)];exact hm5
      · rw [List.getElem?_set_self (by omega)]
      · have ho9:AccF HM H8 u' (tfs q n m A (k+1)):=by
          have e:tfs q n m A (k+1)=tfs q n m A k++[(rN (tk q n A k (n+1)) (m*m),rD (tk q n A k (n+1)) (m*m))]:=by
            simp [tfs,List.range_succ]
          rw [e];exact ho8
        exact ho9.keep fun b hb _=>by rw [List.getElem?_set_ne (by omega)]
  · rintro x H4 ⟨rfl,ho4,hm4c,u,hu,hl4,hacc⟩ J3
    have hone:=hacc.row.one
    have hcell:=hacc.row.cells
    have hst:=qjm (k:=0) (v:=u) hu (by simp) hcell hone
    rw [show (List.set [u] 0 u)=[u] from rfl] at hst
    have he4:H4[H.length+1]? = some (.cells [nv 0] 35 none false):=by rw [ho4 _ (by omega) (by omega),hp _ (by omega)];exact hX1
    have hlH4:H.length<H4.length:=by omega
    have hu9:(H4.set H.length (.cells [u] 61 none false))[H.length]? = some (.cells [u] 61 none false):=List.getElem?_set_self hlH4
    have he9:(H4.set H.length (.cells [u] 61 none false))[H.length+1]? = some (.cells [nv 0] 35 none false):=by rw [List.getElem?_set_ne (by omega)];exact he4
    have hst2:=qjm (k:=0) (v:=nv 0) he9 (by simp) rfl rfl
    rw [show (List.set [nv 0] 0 (nv 0))=[nv 0] from rfl] at hst2
    have hu10:((H4.set H.length (.cells [u] 61 none false)).set (H.length+1) (.cells [nv 0] 35 none false))[H.length]? = some (.cells [u] 61 none false):=by rw [List.getElem?_set_ne (by omega)];exact hu9
    have he10:((H4.set H.length (.cells [u] 61 none false)).set (H.length+1) (.cells [nv 0] 35 none false))[H.length+1]? = some (.cells [nv 0] 35 none false):=List.getElem?_set_self (by simp;omega)
    simp (disch:=(first|omega|(simp only [qbf]<;>omega)|(simp only [qbd];done)|rfl)) only [zA,zB,zC,zD,zF,zG,zH,Nat.reduceEqDiff,Nat.reduceLT,Nat.reduceLeDiff,↓reduceIte,hnn,hu,hst,hst2,hu10,he10]
    refine⟨fun b hb=>?_,u,rfl,?_⟩
    · rw [List.getElem?_set_ne (by omega),List.getElem?_set_ne (by omega),ho4 b (by omega) (by omega)];exact hHH1 b hb
    · refine (hacc.keep fun b hb _=>?_).mono (by omega)
      rw [List.getElem?_set_ne (by omega),List.getElem?_set_ne (by omega)]
end
end Go.Sim

namespace Go.Sim
open Kr
theorem far_comm (n:Nat) (x y:Nat→Nat):far n x y=far n y x:=by
  induction n with
  | zero=>rfl
  | succ n ih =>
    simp only [far,ih]
    by_cases h:x n=y n
    · simp [h]
    · simp [h,show ¬y n=x n from fun h'=>h h'.symm]
theorem far_self (n:Nat) (x:Nat→Nat):far n x x=0:=by
  induction n with
  | zero=>rfl
  | succ n ih=>simp only [far,ih];simp
theorem cn_sum {n m:Nat} {f:Nat→Nat} (hf:∀ y,y<m→f y≤n) (g:Nat→Int):sm (n+1) (fun j=>(cn m fun y=>decide (f y=j))*g j)=sm m fun y=>g (f y):=by
  induction m with
  | zero=>simp only [cn,sm];rw [qbz (g:=fun _=>0) (by intro j _;simp),qqf];simp
  | succ m ih =>
    have h1:=ih fun y hy=>hf y (by omega)
    have h2:=hf m (by omega)
    have e:∀ j,((cn (m+1) fun y=>decide (f y=j):Nat):Int)*g j=((cn m fun y=>decide (f y=j):Nat):Int)*g j+(if f m=j then g (f m) else 0):=by
      intro j
      simp only [cn]
      by_cases h:f m=j
      · subst h;simp [Int.add_mul]
      · simp [h]
    rw [qbz fun j _=>e j,qj7,h1,sm_ite,if_pos (by omega)]
    rfl
theorem prs_sum {n:Nat} {w:Nat→Nat→Nat} (g:Nat→Int):∀ m,sm (n+1) (fun j=>(prs n w m j:Int)*g j)=sm m fun x=>sm m fun y=>g (far n (w x) (w y)):=by
  intro m
  induction m with
  | zero =>
    rw [qbz (g:=fun _=>0) (by intro j _;simp [prs,lo]),qqf];rfl
  | succ m ih =>
    have e:∀ j,((prs n w (m+1) j:Nat):Int)*g j=(prs n w m j:Int)*g j+(if 0=j then g 0 else 0)+2*(((cn m fun y=>decide (far n (w m) (w y)=j):Nat):Int)*g j):=by
      intro j
      simp only [prs,lo]
      by_cases h:j=0
      · subst h;simp only [if_true];rw [Int.natCast_add,Int.natCast_add,Int.natCast_add,Int.natCast_add,Int.natCast_mul];simp only [Int.add_mul,Int.mul_assoc];omega
      · simp only [h,if_false,show ¬0=j from fun h'=>h h'.symm];rw [Int.natCast_add,Int.natCast_add,Int.natCast_add,Int.natCast_mul];simp only [Int.add_mul,Int.mul_assoc];omega
    rw [qbz fun j _=>e j,qj7,qj7,ih,sm_ite,if_pos (by omega),sm_mul,cn_sum (f:=fun y=>far n (w m) (w y)) fun y _=>far_le _ _ _]
    have e2:sm (m+1) (fun x=>sm (m+1) fun y=>g (far n (w x) (w y)))=(sm m (fun x=>sm m fun y=>g (far n (w x) (w y)))+sm m (fun x=>g (far n (w x) (w m))))+(sm m (fun y=>g (far n (w m) (w y)))+g (far n (w m) (w m))):=by
      simp only [sm]
      rw [←qj7]
    have e3:sm m (fun x=>g (far n (w x) (w m)))=sm m (fun y=>g (far n (w m) (w y))):=qbz fun y _=>by rw [far_comm]
    rw [e2,e3,far_self]
    omega
theorem sumN_sm (m:Nat) (f:Nat→Nat):((sumN m f:Nat):Int)=sm m fun i=>(f i:Int):=by
  induction m with
  | zero=>rfl
  | succ m ih=>simp only [sumN,sm,←ih];exact Int.natCast_add _ _
theorem prs_all {n m:Nat} {w:Nat→Nat→Nat}:sumN (n+1) (prs n w m)=m*m:=by
  have h:=prs_sum (n:=n) (w:=w) (fun _=>1) m
  simp only [Int.mul_one] at h
  rw [←sumN_sm,qbz (g:=fun _=>(m:Int)) (fun x _=>by rw [qj6];simp),qj6] at h
  rw [←Int.natCast_mul] at h
  exact Int.ofNat_inj.1 h
end Go.Sim

namespace Go.Sim
open Go Go.Proofs Kr
section
variable {H:AH}
theorem xfill_fr {u:Value} (hc:qbn u=[u]):(qbv [.slice none 0 0,nv 0] [(0,1),(1,1)] [u,nv 0])=some [u,nv 0]:=by
  rw [qg8 hc (by simp)];rfl
theorem stB2u {H:AH} {u:Value} {b:Nat} {e:TypeId} (h1:one u=true):stB 2 H (some (.cells [.slice none 0 0,nv 0] e none false)) b 0 (.agg #[u,nv 0])=some (undef,H.set b (.cells [u,nv 0] e none false)):=stB2 h1 rfl
theorem distances_c {q n:Nat} {v:Value} {wss:List (List Nat)} (hq:2≤q∧q≤16) (hn:n≤24) (hm:0<wss.length) (hm2:wss.length≤64) (hw:∀ ws∈wss,ws.length=n∧∀ x∈ws,x<q) (hv:RowR H v (wss.map fun ws=>ws.map nv)) :
    FN Tryz.prog 55 [nv q,nv n,v] H (fun r H'=>Pre H H'∧∃ u,r=.agg [u,nv 0].toArray∧AccF H H' u (dfs n wss.length (lw wss))):=by
  refine g55_of ?_
  unfold g55
  have hp1:=Pre.new H [AB.cells [.slice none 0 0,nv 0] 63 none false]
  simp (disch:=(first|omega|(simp only [qbf]<;>omega)|(simp only [qbd];done)|rfl)) only [zA,zB,zC,zD,zF,zG,zH,Nat.reduceEqDiff,Nat.reduceLT,Nat.reduceLeDiff,↓reduceIte]
  refine FZ.mono (dist_c hq hn hm hm2 hw (hv.pre hp1)) ?_
  rintro _ H2 ⟨hp,u,rfl,ho⟩
  have hc:H2[H.length]? = some (.cells [.slice none 0 0,nv 0] 63 none false):=hp.get (by simp)
  have hx:=xfill_fr ho.row.cells
  have hl:=qbr hc
  simp (disch:=(first|omega|(simp only [qbf]<;>omega)|(simp only [qbd];done)|rfl)) only [zA,zB,zC,zD,zF,zG,zH,Nat.reduceEqDiff,Nat.reduceLT,Nat.reduceLeDiff,↓reduceIte,hx,hc]
  rw [stB2u ho.row.one]
  have h9:(H2.set H.length (.cells [u,nv 0] 63 none false))[H.length]? = some (.cells [u,nv 0] 63 none false):=List.getElem?_set_self hl
  simp (disch:=(first|omega|(simp only [qbf]<;>omega)|(simp only [qbd];done)|rfl)) only [zA,zB,zC,zD,zF,zG,zH,Nat.reduceEqDiff,Nat.reduceLT,Nat.reduceLeDiff,↓reduceIte,h9]
  refine⟨(hp1.trans hp).set (Nat.le_refl _) _,u,rfl,?_⟩
  refine (ho.keep fun b hb _=>?_).mono (by simp)
  rw [List.getElem?_set_ne (by simp at hb;omega)]
theorem lturned_c {q n m:Nat} {A:Nat→Nat} {v:Value} (hq:2≤q∧q≤16) (hn:n≤24) (hf:q ^ n≤2 ^ 30) (hm:0<m) (hm2:m≤64) (hA:∀ j,j≤n→A j≤8256) (hA0:0<A 0) (hS:sumN (n+1) A=m*m) (hv:RowF H v (afs n m A)) :
    FN Tryz.prog 57 [nv q,nv n,v] H (fun r H'=>Pre H H'∧∃ u,r=.agg [u,nv 0].toArray∧AccF H H' u (tfs q n m A (n+1))):=by
  refine g57_of ?_
  unfold g57
  have hp1:=Pre.new H [AB.cells [.slice none 0 0,nv 0] 63 none false]
  simp (disch:=(first|omega|(simp only [qbf]<;>omega)|(simp only [qbd];done)|rfl)) only [zA,zB,zC,zD,zF,zG,zH,Nat.reduceEqDiff,Nat.reduceLT,Nat.reduceLeDiff,↓reduceIte]
  refine FZ.mono (tturned_c hq hn hf hm hm2 hA hA0 hS (hv.pre hp1)) ?_
  rintro _ H2 ⟨hp,u,rfl,ho⟩
  have hc:H2[H.length]? = some (.cells [.slice none 0 0,nv 0] 63 none false):=hp.get (by simp)
  have hx:=xfill_fr ho.row.cells
  have hl:=qbr hc
  simp (disch:=(first|omega|(simp only [qbf]<;>omega)|(simp only [qbd];done)|rfl)) only [zA,zB,zC,zD,zF,zG,zH,Nat.reduceEqDiff,Nat.reduceLT,Nat.reduceLeDiff,↓reduceIte,hx,hc]
  rw [stB2u ho.row.one]
  have h9:(H2.set H.length (.cells [u,nv 0] 63 none false))[H.length]? = some (.cells [u,nv 0] 63 none false):=List.getElem?_set_self hl
  simp (disch:=(first|omega|(simp only [qbf]<;>omega)|(simp only [qbd];done)|rfl)) only [zA,zB,zC,zD,zF,zG,zH,Nat.reduceEqDiff,Nat.reduceLT,Nat.reduceLeDiff,↓reduceIte,h9]
  refine⟨(hp1.trans hp).set (Nat.le_refl _) _,u,rfl,?_⟩
  refine (ho.keep fun b hb _=>?_).mono (by simp)
  rw [List.getElem?_set_ne (by simp at hb;omega)]
end
end Go.Sim

namespace Go.Sim
open Kr
section
variable {α:Type} [Fl α] [DecidableEq α] {cd:α→Nat} {dec:Nat→α} {q:Nat}
def lmin (x y:List α):List α:=List.zipWith smu x y
theorem lmin_len {n:Nat} {x y:List α} (hx:x.length=n) (hy:y.length=n):(lmin x y).length=n:=by simp [lmin,hx,hy]
theorem qpd {n:Nat} {x y:List α} (hx:x.length=n) (hy:y.length=n):toV (lmin x y)=va (toV x) (vs (Fl.neg Fl.one) (toV y)):=by
  funext j
  show (lmin x y).getD j Fl.zero=Fl.add (x.getD j Fl.zero) (Fl.mul (Fl.neg Fl.one) (y.getD j Fl.zero))
  have hneg:∀ a:α,Fl.mul (Fl.neg Fl.one) a=Fl.neg a:=fun a=>by
    refine Fl.add_left_cancel (a:=a) ?_
    rw [Fl.add_neg]
    have:Fl.add (Fl.mul Fl.one a) (Fl.mul (Fl.neg Fl.one) a)=Fl.zero:=by
      rw [Fl.mul_comm Fl.one,Fl.mul_comm (Fl.neg Fl.one),←Fl.mul_add,Fl.add_neg,Fl.mul_zero]
    rwa [Fl.mul_comm Fl.one,Fl.mul_one] at this
  rw [hneg]
  by_cases hj:j<n
  · simp [lmin,smu,List.getD_eq_getElem?_getD,List.getElem?_zipWith,List.getElem?_eq_getElem (show j<x.length by omega),List.getElem?_eq_getElem (show j<y.length by omega)]
  · have h0:smu (Fl.zero:α) Fl.zero=Fl.zero:=qh2 _
    unfold smu at h0
    simp only [lmin,List.getD_eq_getElem?_getD,List.getElem?_zipWith,List.getElem?_eq_none (show x.length≤j by omega),List.getElem?_eq_none (show y.length≤j by omega)]
    exact h0.symm
theorem va_back (u v:Vc α):va u (vs (Fl.neg Fl.one) (va u (vs (Fl.neg Fl.one) v)))=v:=by
  funext j
  show Fl.add (u j) (Fl.mul (Fl.neg Fl.one) (Fl.add (u j) (Fl.mul (Fl.neg Fl.one) (v j))))=v j
  have hneg:∀ a:α,Fl.mul (Fl.neg Fl.one) a=Fl.neg a:=fun a=>by
    refine Fl.add_left_cancel (a:=a) ?_
    rw [Fl.add_neg]
    have:Fl.add (Fl.mul Fl.one a) (Fl.mul (Fl.neg Fl.one) a)=Fl.zero:=by
      rw [Fl.mul_comm Fl.one,Fl.mul_comm (Fl.neg Fl.one),←Fl.mul_add,Fl.add_neg,Fl.mul_zero]
    rwa [Fl.mul_comm Fl.one,Fl.mul_one] at this
  rw [hneg,hneg]
  have h:=(smu_eq (s:=u j) (x:=Fl.add (u j) (Fl.neg (v j)))).2
  have e:smu (u j) (smu (u j) (v j))=v j:=by
    refine Fl.add_left_cancel (a:=Fl.neg (v j)) ?_
    have h1:=smu_add (u j) (v j) (smu (u j) (v j))
    have h2:Fl.add (v j) (smu (u j) (v j))=u j:=by
      unfold smu
      rw [Fl.add_comm (u j),←Fl.add_assoc,Fl.add_neg,Fl.zero_add]
    rw [h2] at h1
    have h3:smu (u j) (u j)=Fl.zero:=smu_eq.2 rfl
    rw [h3] at h1
    have h4:=(smu_eq (s:=smu (u j) (smu (u j) (v j))) (x:=v j)).1 h1.symm
    rw [←h4]
  exact e
theorem wds_sub {A ws:List (List α)} {n:Nat} (hW:Wds A n q ws) {x:List α} (hx:x∈ws):Wds A n q (ws.map (lmin x)):=by
  obtain⟨h1,h2⟩:=hW.mem x hx
  refine⟨by rw [List.length_map,hW.len],fun z hz=>?_,fun u hu=>?_,?_⟩
  · obtain⟨y,hy,rfl⟩:=List.mem_map.1 hz
    obtain⟨h3,h4⟩:=hW.mem y hy
    refine⟨lmin_len h1 h3,?_⟩
    rw [qpd h1 h3]
    exact Span.add h2 (Span.smul _ h4)
  · obtain⟨y,hy,e⟩:=hW.all (va (toV x) (vs (Fl.neg Fl.one) u)) (Span.add h2 (Span.smul _ hu))
    refine⟨lmin x y,List.mem_map.2 ⟨y,hy,rfl⟩,?_⟩
    rw [qpd h1 (hW.mem y hy).1,e,va_back]
  · rw [List.Nodup,List.pairwise_map]
    refine List.Pairwise.imp_of_mem ?_ hW.nd
    intro y z hy hz hne he
    refine hne (qqb (by rw [(hW.mem y hy).1,(hW.mem z hz).1]) ?_)
    have:=congrArg toV he
    rw [qpd h1 (hW.mem y hy).1,qpd h1 (hW.mem z hz).1] at this
    rw [←va_back (toV x) (toV y),this,va_back]
def ltr (cd:α→Nat) (ws:List (List α)):List (List Nat):=ws.map fun x=>x.map cd
theorem far_sub (E:En cd dec q) {n:Nat} {x y:List α} (hx:x.length=n) (hy:y.length=n):far n (fun c=>(x.map cd).getD c 0) (fun c=>(y.map cd).getD c 0)=lwt (lmin x y):=by
  rw [qq4 n _ (lmin_len hx hy)]
  have key:∀ m,m≤n→far m (fun c=>(x.map cd).getD c 0) (fun c=>(y.map cd).getD c 0)=vwt m (toV (lmin x y)):=by
    intro m
    induction m with
    | zero=>intro _;rfl
    | succ m ih =>
      intro hm
      rw [vwt_succ,←ih (by omega)]
      have e1:toV (lmin x y) m=smu (x[m]'(by omega)) (y[m]'(by omega)):=by
        show (lmin x y).getD m Fl.zero=_
        simp [lmin,List.getD_eq_getElem?_getD,List.getElem?_zipWith,List.getElem?_eq_getElem (show m<x.length by omega),List.getElem?_eq_getElem (show m<y.length by omega)]
      have e2:(x.map cd).getD m 0=cd (x[m]'(by omega)):=by simp [List.getD_eq_getElem?_getD,List.getElem?_eq_getElem (show m<x.length by omega)]
      have e3:(y.map cd).getD m 0=cd (y[m]'(by omega)):=by simp [List.getD_eq_getElem?_getD,List.getElem?_eq_getElem (show m<y.length by omega)]
      show far m _ _+_=_
      rw [e1]
      by_cases h:x[m]'(by omega)=y[m]'(by omega)
      · rw [if_pos (smu_eq.2 h.symm)]
        simp only [e2,e3,h]
        simp
      · rw [if_neg (fun h'=>h (smu_eq.1 h').symm)]
        have h':cd (x[m]'(by omega))≠cd (y[m]'(by omega)):=fun h'=>h (E.inj _ _ h')
        simp only [e2,e3]
        simp [h']
  exact key n (Nat.le_refl _)
theorem prs_code (E:En cd dec q) {A ws:List (List α)} {n j:Nat} (hW:Wds A n q ws) (hj:j≤n):prs n (lw (ltr cd ws)) ws.length j=ws.length*wct ws j:=by
  have h:=prs_sum (n:=n) (w:=lw (ltr cd ws)) (fun i=>if i=j then 1 else 0) ws.length
  have e1:sm (n+1) (fun i=>(prs n (lw (ltr cd ws)) ws.length i:Int)*if i=j then 1 else 0)=prs n (lw (ltr cd ws)) ws.length j:=by
    rw [←sm_one (m:=n+1) (j:=j) (by omega) fun i=>(prs n (lw (ltr cd ws)) ws.length i:Int)]
    exact qbz fun i _=>by by_cases h:i=j<;>simp [h]
  have e2:∀ x,x<ws.length→sm ws.length (fun y=>if far n (lw (ltr cd ws) x) (lw (ltr cd ws) y)=j then (1:Int) else 0)=wct ws j:=fun x hx=>by
    have hxm:=getD_mem (l:=ws) (k:=x) (d:=[]) hx
    rw [wct_same hW (wds_sub hW hxm)]
    have hl:∀ {i},i<ws.length→lw (ltr cd ws) i=fun c=>((ws.getD i []).map cd).getD c 0:=fun {i} hi=>by
      funext c
      simp [lw,ltr,List.getD_eq_getElem?_getD,List.getElem?_eq_getElem hi]
    have e3:sm ws.length (fun y=>if far n (lw (ltr cd ws) x) (lw (ltr cd ws) y)=j then (1:Int) else 0)=sm ws.length (fun y=>if lwt (lmin (ws.getD x []) (ws.getD y []))=j then 1 else 0):=qbz fun y hy=>by
      rw [hl hx,hl hy,far_sub E (hW.mem _ hxm).1 (hW.mem _ (getD_mem hy)).1]
    rw [e3]
    have e4:∀ l:List (List α),sm l.length (fun y=>if lwt (lmin (ws.getD x []) (l.getD y []))=j then (1:Int) else 0)=(wct (l.map (lmin (ws.getD x []))) j:Nat):=fun l=>by
      have h5:=qq6 (fun z=>if lwt (lmin (ws.getD x []) z)=j then (1:Int) else 0) (fun i=>l.getD i []) l.length
      rw [←h5]
      have h6:(List.range l.length).map (fun i=>l.getD i [])=l:=by
        refine List.ext_getElem (by simp) fun i h1 h2=>?_
        simp [List.getD_eq_getElem?_getD,List.getElem?_eq_getElem h2]
      rw [h6]
      clear h5 h6
      induction l with
      | nil=>rfl
      | cons z l ih =>
        simp only [lsm,List.map_cons]
        rw [qpb,ih]
        by_cases h:lwt (lmin (ws.getD x []) z)=j
        · rw [if_pos h,if_pos h];omega
        · rw [if_neg h,if_neg h];omega
    exact e4 ws
  rw [e1,qbz e2,qj6] at h
  rw [←Int.natCast_mul] at h
  exact Int.ofNat_inj.1 h
end
end Go.Sim

namespace Go.Sim
open Go Go.Proofs Kr
theorem red_int {a:Int} {m:Nat} {b:Nat} (hm:0<m) (h:a=((m*b:Nat):Int)):rN a m=(b:Int)∧rD a m=1:=by
  have:=qpg (n:=(b:Int)) (d:=1) (a:=a) (m:=m) hm (by decide) (by rw [h];simp [Int.mul_comm]) (Nat.gcd_one_right _)
  exact⟨this.1.symm,this.2.symm⟩
set_option maxRecDepth 4000 in
set_option maxHeartbeats 8000000 in
theorem law9 {H:AH} {x:Value} {us:List Nat} {k n m:Nat} (hm:m<256) (hus:∀ u∈us,u<256) (hx:Row H x (us.map bv)) :
    FN Tryz.prog 9 [rawv k n m x] H (fun r H'=>r=.bool true∧H'=H):=by
  refine FN.pre0 (g9_of ?_) rfl
  unfold g9
  have hxo:=hx.one
  simp (disch:=(first|omega|(simp only [qbf]<;>omega)|(simp only [qbd];done)|rfl)) only [zA,zB,zC,zD,zF,zG,zH,Nat.reduceEqDiff,Nat.reduceLT,Nat.reduceLeDiff,↓reduceIte]
  refine FZ.use (exTl _) ?_
  simp (disch:=(first|omega|(simp only [qbf]<;>omega)|(simp only [qbd];done)|rfl)) only [zA,zB,zC,zD,zF,zG,zH,Nat.reduceEqDiff,Nat.reduceLT,Nat.reduceLeDiff,↓reduceIte,Bool.not_true]
  have hX0:=Pre.new H [.cells [bv k,bv n,bv m,x] 24 none false]
  have hk6:k % 6<6:=Nat.mod_lt _ (by omega)
  obtain⟨α,i1,i2,cd,p,e,blk,Q⟩:=Pf.fq_at (k % 6) hk6
  refine FZ.mono (made2_c Q rfl hm hus (hx.pre hX0)) ?_
  rintro _ H5 ⟨hp5,va,A,rfl,hA,hAm,hva⟩
  have hpow:=Pf.pow_most hk6
  have hAw:Pf.ordM (k % 6) ^ A.length≤256:=Nat.le_trans (Nat.pow_le_pow_right (by have:=(most_le hk6).2.2;omega) hAm) hpow
  have hq8:=(most_le hk6).2.1
  have hq2:=(most_le hk6).2.2
  obtain⟨na,hna⟩:∃ na,na=1+n % 10:=⟨_,rfl⟩
  have hna1:1≤na∧na≤10:=by omega
  obtain⟨q,hq⟩:∃ q,q=Pf.ordM (k % 6):=⟨_,rfl⟩
  rw [←hna] at hA ⊢
  rw [←hq] at Q hAw hq8 hq2 ⊢
  have F:=Q.ok 0
  obtain⟨dec,hd⟩:=dec_ex F
  have E:En cd dec q:=⟨F.lt,F.inj,hd,F.zero,F.q2⟩
  have hDr:=dual_red hA
  obtain⟨ds,hds⟩:∃ ds,ds=qcf na q (qfr na A) dec:=⟨_,rfl⟩
  obtain⟨ws,hws0⟩:∃ ws,ws=qcf na q A dec:=⟨_,rfl⟩
  have hD:Wds (qfr na A) na q ds:=by rw [hds];exact qmp F hDr hd
  have hW:Wds A na q ws:=by rw [hws0];exact qmp F hA hd
  obtain⟨k0,hk0⟩:∃ k0,k0=A.length:=⟨_,rfl⟩
  have hAk:q ^ k0≤256:=by rw [hk0];exact hAw
  have hk10:k0≤10:=by have:=hA.le;omega
  have hqn:q ^ na≤2 ^ 30:=Nat.le_trans (Nat.pow_le_pow_left hq8 na) (Nat.le_trans (Nat.pow_le_pow_right (by decide) hna1.2) (by decide))
  have hqk0:q ^ k0≤q ^ na:=Nat.pow_le_pow_right (by omega) (by have:=hA.le;omega)
  have hbd:∀ {l:List (List α)} {B:List (List α)},Wds B na q l→∀ x∈l,lwt x≤na:=fun h x hx=>by
    have:=lwt_le x;rwa [(h.mem x hx).1] at this
  have sa:=qc7 (H:=H5++[.cells [nv 0,nv 0,.slice none 0 0] 29 none false]) (bl:=H5.length) (x:=nv q) (y:=nv na) (z:=va) (c0:=nv 0) (c1:=nv 0) (c2:=.slice none 0 0) (e:=29) (op:=none) rfl rfl hva.one
  rw [qdn] at sa
  simp (disch:=(first|omega|(simp only [qbf]<;>omega)|(simp only [qbd];done)|rfl)) only [zA,zB,zC,zD,zF,zG,zH,Nat.reduceEqDiff,Nat.reduceLT,Nat.reduceLeDiff,↓reduceIte,sa]
  have hp57:=Pre.new H5 [.cells [nv q,nv na,va] 29 none false]
  obtain⟨H7,hH7⟩:∃ H7,H7=H5++[.cells [nv q,nv na,va] 29 none false]:=⟨_,rfl⟩
  have ga7:H7[H5.length]? = some (.cells [nv q,nv na,va] 29 none false):=by rw [hH7];simp
  rw [←hH7] at hp57 ⊢
  clear hH7 sa
  have hA7:=hva.rowR.pre hp57
  have hX7:=hX0.trans (hp5.trans hp57)
  refine FZ.mono (cwordsL_c Q (by omega) hd hA7 hA hk0.symm (by omega) (by omega) hna1.1) ?_
  rintro _ H8 ⟨hp8,w,rfl,hw⟩
  rw [←hws0] at hw
  have ga8:=hp8.get ga7
  have lw8:=len_of hw
  have hwl:ws.length=q ^ k0:=by rw [hW.len,hk0]
  rw [hwl] at lw8
  simp (disch:=(first|omega|(simp only [qbf]<;>omega)|(simp only [qbd];done)|rfl)) only [zA,zB,zC,zD,zF,zG,zH,Nat.reduceEqDiff,Nat.reduceLT,Nat.reduceLeDiff,↓reduceIte,ga8,lw8]
  refine FZ.use (ccount_c (hA7.pre hp8) hk0.symm (by omega) (by omega) (by omega)) ?_
  simp (disch:=(first|omega|(simp only [qbf]<;>omega)|(simp only [qbd];done)|rfl)) only [zA,zB,zC,zD,zF,zG,zH,Nat.reduceEqDiff,Nat.reduceLT,Nat.reduceLeDiff,↓reduceIte,lw8]
  by_cases h64:64<q ^ k0
  · simp (disch:=(first|omega|(simp only [qbf]<;>omega)|(simp only [qbd];done)|rfl)) only [zA,zB,zC,zD,zF,zG,zH,Nat.reduceEqDiff,Nat.reduceLT,Nat.reduceLeDiff,↓reduceIte,h64]
    exact hX7.trans hp8
  simp (disch:=(first|omega|(simp only [qbf]<;>omega)|(simp only [qbd];done)|rfl)) only [zA,zB,zC,zD,zF,zG,zH,Nat.reduceEqDiff,Nat.reduceLT,Nat.reduceLeDiff,↓reduceIte,h64,ga8]
  have hA8:=hA7.pre hp8
  refine FZ.mono (cweights_c Q (by omega) hA8 hA hk0.symm (by omega) (by omega) hna1.1) ?_
  rintro _ H9 ⟨hp9,w2,ws2,rfl,hw2,hW2⟩
  have ew:(tab (na+1) fun j=>nv (wct ws2 j))=tab (na+1) fun j=>nv (wct ws j):=qhz fun j _=>by rw [wct_same hW2 hW]
  rw [ew] at hw2
  have ga9:=hp9.get ga8
  simp (disch:=(first|omega|(simp only [qbf]<;>omega)|(simp only [qbd];done)|rfl)) only [zA,zB,zC,zD,zF,zG,zH,Nat.reduceEqDiff,Nat.reduceLT,Nat.reduceLeDiff,↓reduceIte,ga9]
  have hp11:=Pre.new H9 [.cells [.slice none 0 0,nv 0] 63 none false,.cells [.slice none 0 0,nv 0] 66 none false]
  have hlt:∀ l∈ltr cd ws,l.length=na∧∀ x∈l,x<q:=fun l hl=>by
    obtain⟨x,hx,rfl⟩:=List.mem_map.1 hl
    refine⟨by rw [List.length_map];exact (hW.mem x hx).1,fun y hy=>?_⟩
    obtain⟨a,_,rfl⟩:=List.mem_map.1 hy
    exact F.lt a
  have hll:(ltr cd ws).length=q ^ k0:=by rw [←hwl];simp [ltr]
  have hw11:RowR (H9++[.cells [.slice none 0 0,nv 0] 63 none false,.cells [.slice none 0 0,nv 0] 66 none false]) w ((ltr cd ws).map fun l=>l.map nv):=by
    have:=(hw.pre hp9).pre hp11
    rwa [evr_nv] at this
  have hpk:0<q ^ k0:=Nat.pow_pos (by omega)
  refine FZ.mono (distances_c (q:=q) (n:=na) (by omega) (by omega) (by omega) (by omega) hlt hw11) ?_
  rintro _ H12 ⟨hp12,du,rfl,hdu⟩
  have ga12:=hp12.get (qc4 ga9 [.cells [.slice none 0 0,nv 0] 63 none false,.cells [.slice none 0 0,nv 0] 66 none false])
  simp (disch:=(first|omega|(simp only [qbf]<;>omega)|(simp only [qbd];done)|rfl)) only [zA,zB,zC,zD,zF,zG,zH,Nat.reduceEqDiff,Nat.reduceLT,Nat.reduceLeDiff,↓reduceIte,ga12]
  have hB1:∀ k,k≤na→sm (na+1) (fun i=>(wct ws i:Int)*Kc q na k i)=((q ^ k0*wct ds k:Nat):Int):=fun k hk=>by
    rw [qbz fun i hi=>by rw [Kc_Kz ⟨hq2,hq8⟩ hna1.2 hk (by omega)],macw E hA hW (by rw [←hws0];exact hW) hD,hk0];simp
  have hdl:ds.length≤q ^ na:=by rw [hD.len];exact Nat.pow_le_pow_right (by omega) hDr.le
  have hc1:∀ k,k≤na→wct ds k≤q ^ na:=fun k _=>by have:=wct_le ds k;omega
  refine FZ.mono (turnI_c (q:=q) (n:=na) (by omega) (by omega) hqn (hw2.pre (hp11.trans hp12)) ((wct_total ws (hbd hW)).trans hwl) hpk hqk0 hB1 hc1) ?_
  rintro _ H13 ⟨hp13,t,rfl,ht1,htr,htlo⟩
  have gd13:H13[H9.length]? = some (.cells [.slice none 0 0,nv 0] 63 none false):=(hp12.trans hp13).get (by simp)
  have ge13:H13[H9.length+1]? = some (.cells [.slice none 0 0,nv 0] 66 none false):=(hp12.trans hp13).get (by simp)
  have hd1:=hdu.row.one
  have s1:=qgt (H:=H13) (e:=63) (op:=none) (bl:=H9.length) (n:=2) (c:=[.slice none 0 0,nv 0]) (c':=[du,nv 0]) rfl rfl (by simp [hd1];rfl)
  have ge14:(H13.set H9.length (.cells [du,nv 0] 63 none false))[H9.length+1]? = some (.cells [.slice none 0 0,nv 0] 66 none false):=by rw [List.getElem?_set_ne (by omega)];exact ge13
  have s2:=qgt (H:=H13.set H9.length (.cells [du,nv 0] 63 none false)) (e:=66) (op:=none) (bl:=H9.length+1) (n:=2) (c:=[.slice none 0 0,nv 0]) (c':=[t,nv 0]) rfl rfl (by simp [ht1];rfl)
  obtain⟨H15,hH15⟩:∃ H15,H15=(H13.set H9.length (.cells [du,nv 0] 63 none false)).set (H9.length+1) (.cells [t,nv 0] 66 none false):=⟨_,rfl⟩
  have hl13:=qbr gd13
  have hl13':=qbr ge13
  have gd15:H15[H9.length]? = some (.cells [du,nv 0] 63 none false):=by rw [hH15,List.getElem?_set_ne (by omega),List.getElem?_set_self hl13]
  have ge15:H15[H9.length+1]? = some (.cells [t,nv 0] 66 none false):=by rw [hH15,List.getElem?_set_self (by simp;omega)]
  have hk15:∀ x,x≠H9.length→x≠H9.length+1→H15[x]? = H13[x]?:=fun x h1 h2=>by rw [hH15,List.getElem?_set_ne (Ne.symm h2),List.getElem?_set_ne (Ne.symm h1)]
  have hl15:H15.length=H13.length:=by rw [hH15];simp
  have hp9_15:Pre H9 H15:=fun x hx=>by rw [hk15 x (by omega) (by omega)];exact (hp11.trans (hp12.trans hp13)) x hx
  have ga15:=hp9_15.get ga9
  rw [←hH15] at s2
  simp (disch:=(first|omega|(simp only [qbf]<;>omega)|(simp only [qbd];done)|rfl)) only [zA,zB,zC,zD,zF,zG,zH,Nat.reduceEqDiff,Nat.reduceLT,Nat.reduceLeDiff,↓reduceIte,gd13,s1,ge14,s2,ga15,gd15]
  clear hH15 s1 s2 ge14
  have ht15:Row H15 t (tab (na+1) fun j=>nv (wct ds j)):=by
    have h12:=hp12.len
    simp only [List.length_append,List.length_cons,List.length_nil] at h12
    rcases htr _ (Pre.refl _) with ⟨h1,h2⟩|⟨b1,o1,c1,cc1,e1,op1,r1,h1,h2,h3⟩
    · exact .inl ⟨h1,h2⟩
    · have h4:=htlo _ _ _ h1
      exact .inr ⟨b1,o1,c1,cc1,e1,op1,r1,h1,by rw [hk15 _ (by simp at h4;omega) (by simp at h4;omega)];exact h2,h3⟩
  have hdu15:=hdu.keep (H':=H15) fun x h1 h2=>by
    simp only [List.length_append,List.length_cons,List.length_nil] at h1
    rw [hk15 x (by omega) (by omega)];exact hp13 x h2
  have hm64:q ^ k0≤64:=by omega
  have hpr:∀ j,j≤na→prs na (lw (ltr cd ws)) (q ^ k0) j=q ^ k0*wct ws j:=fun j hj=>by
    have:=prs_code E hW hj
    rwa [hwl] at this
  have hw0:wct ws 0=1:=wct_zero1 hW hA
  rw [hll] at hdu15
  have hRd:=hdu15.row
  have key:=lturned_c (q:=q) (n:=na) (m:=q ^ k0) (A:=prs na (lw (ltr cd ws)) (q ^ k0)) (v:=du) (H:=H15) (by omega) (by omega) hqn hpk hm64 (fun j _=>by have:=prs_le (n:=na) (i:=q ^ k0) (j:=j) (w:=lw (ltr cd ws)) hm64;omega) (by rw [hpr 0 (by omega),hw0];omega) prs_all hRd
  refine FZ.mono key ?_
  rintro _ H16 ⟨hp16,tu,rfl,htu⟩
  have sb:=qgt (H:=H16++[.cells [.slice none 0 0,nv 0] 63 none false]) (e:=63) (op:=none) (bl:=H16.length) (n:=2) (c:=[.slice none 0 0,nv 0]) (c':=[tu,nv 0]) rfl rfl (by simp [htu.row.one];rfl)
  rw [qdn] at sb
  have hp18:=Pre.new H16 [.cells [tu,nv 0] 63 none false]
  have gf18:(H16++[.cells [tu,nv 0] 63 none false])[H16.length]? = some (.cells [tu,nv 0] 63 none false):=by simp
  have gd18:=(hp16.trans hp18).get gd15
  have ge18:=(hp16.trans hp18).get ge15
  have hl16:H9.length+2≤H16.length:=by have:=hp16.len;omega
  obtain⟨H18,hH18⟩:∃ H18,H18=H16++[.cells [tu,nv 0] 63 none false]:=⟨_,rfl⟩
  rw [←hH18] at hp18 gf18 gd18 ge18 sb
  have hRd18:=hRd.pre (hp16.trans hp18)
  have hRt18:=htu.row.pre hp18
  have ht18:=ht15.pre (hp16.trans hp18)
  have hw18:=hw2.pre (hp9_15.trans (hp16.trans hp18))
  have hX18:=hX7.trans (hp8.trans (hp9.trans (hp9_15.trans (hp16.trans hp18))))
  have ld:(dfs na (q ^ k0) (lw (ltr cd ws))).length=na+1:=by simp [dfs]
  have lt:(tfs q na (q ^ k0) (prs na (lw (ltr cd ws)) (q ^ k0)) (na+1)).length=na+1:=by simp [tfs]
  have gdk:∀ j,j<na+1→(dfs na (q ^ k0) (lw (ltr cd ws))).getD j (0,0)=((wct ws j:Int),1):=fun j hj=>by
    have h1:(dfs na (q ^ k0) (lw (ltr cd ws))).getD j (0,0)=(rN (prs na (lw (ltr cd ws)) (q ^ k0) j) (q ^ k0),rD (prs na (lw (ltr cd ws)) (q ^ k0) j) (q ^ k0)):=by
      simp [dfs,List.getD_eq_getElem?_getD,hj]
    obtain⟨h2,h3⟩:=red_int (a:=((prs na (lw (ltr cd ws)) (q ^ k0) j:Nat):Int)) (b:=wct ws j) hpk (by rw [hpr j (by omega)])
    rw [h1,h2,h3]
  have htk:∀ k,k<na+1→tk q na (prs na (lw (ltr cd ws)) (q ^ k0)) k (na+1)=((q ^ k0*q ^ k0*wct ds k:Nat):Int):=fun k hk=>by
    unfold tk
    have e1:sm (na+1) (fun j=>((prs na (lw (ltr cd ws)) (q ^ k0) j:Nat):Int)*Kc q na k j)=sm (na+1) (fun j=>((q ^ k0:Nat):Int)*((wct ws j:Int)*Kc q na k j)):=qbz fun j hj=>by
      rw [hpr j (by omega),Int.natCast_mul,Int.mul_assoc]
    rw [e1,sm_mul,hB1 k (by omega),←Int.natCast_mul,Nat.mul_assoc]
  have gtk:∀ j,j<na+1→(tfs q na (q ^ k0) (prs na (lw (ltr cd ws)) (q ^ k0)) (na+1)).getD j (0,0)=((wct ds j:Int),1):=fun j hj=>by
    have h1:(tfs q na (q ^ k0) (prs na (lw (ltr cd ws)) (q ^ k0)) (na+1)).getD j (0,0)=(rN (tk q na (prs na (lw (ltr cd ws)) (q ^ k0)) j (na+1)) (q ^ k0*q ^ k0),rD (tk q na (prs na (lw (ltr cd ws)) (q ^ k0)) j (na+1)) (q ^ k0*q ^ k0)):=by
      simp [tfs,List.getD_eq_getElem?_getD,hj]
    obtain⟨h2,h3⟩:=red_int (a:=tk q na (prs na (lw (ltr cd ws)) (q ^ k0)) j (na+1)) (b:=wct ds j) (Nat.mul_pos hpk hpk) (htk j hj)
    rw [h1,h2,h3]
  obtain⟨dl,di,_,_,dv,_,_⟩:=hRd18.all
  obtain⟨ul,ui,_,_,uv,_,_⟩:=hRt18.all
  obtain⟨tl,ti,td,_⟩:=ht18.allV
  obtain⟨wl,wi,wd,_⟩:=hw18.allV
  rw [ld] at dl di dv
  rw [lt] at ul ui uv
  rw [qk3] at tl ti td wl wi wd
  have hLd:∀ k,k<na+1→qbh (some 2) H18 [ptrF du k]=some (frv (wct ws k:Int) 1):=fun k hk=>by
    have:=dv k [] hk
    rw [List.append_nil,gdk k hk] at this
    exact this
  have hLt:∀ k,k<na+1→qbh (some 2) H18 [ptrF tu k]=some (frv (wct ds k:Int) 1):=fun k hk=>by
    have:=uv k [] hk
    rw [List.append_nil,gtk k hk] at this
    exact this
  have hLw:∀ k,k<na+1→qbh none H18 [qf4 w2 k]=some (zv (wct ws k:Int)):=fun k hk=>by
    rw [wd k hk];simp [tab,List.getD_eq_getElem?_getD,hk]
  have hLu:∀ k,k<na+1→qbh none H18 [qf4 t k]=some (zv (wct ds k:Int)):=fun k hk=>by
    rw [td k hk];simp [tab,List.getD_eq_getElem?_getD,hk]
  simp (disch:=(first|omega|(simp only [qbf]<;>omega)|(simp only [qbd];done)|rfl)) only [zA,zB,zC,zD,zF,zG,zH,Nat.reduceEqDiff,Nat.reduceLT,Nat.reduceLeDiff,↓reduceIte,sb,gd18,ge18,gf18,dl,ul,tl,wl]
  clear hH18 sb
  refine loopV1.nat (na+1) (fun i j H'=>j=nv i∧H'=H18) ⟨rfl,rfl⟩ ?_ ?_
  · rintro i j H18 hi ⟨rfl,rfl⟩ J hJ
    have l1:=hLd i hi
    have l2:=hLw i hi
    have l3:=hLt i hi
    have l4:=hLu i hi
    simp (disch:=(first|omega|(simp only [qbf]<;>omega)|(simp only [qbd];done)|rfl)) only [zA,zB,zC,zD,zF,zG,zH,Nat.reduceEqDiff,Nat.reduceLT,Nat.reduceLeDiff,↓reduceIte,wl,hi,gd18,di,l1,wi,l2]
    refine FZ.use one_c ?_
    have ne:∀ z:Int,xbin .neq 5 (frv z 1) (frv z 1)=some (.bool false):=fun z=>by
      show (eqZ [zv z,zv 1] [zv z,zv 1]).map (fun r=>Value.bool !r)=_
      simp [eqZ]
    simp (disch:=(first|omega|(simp only [qbf]<;>omega)|(simp only [qbd];done)|rfl)) only [zA,zB,zC,zD,zF,zG,zH,Nat.reduceEqDiff,Nat.reduceLT,Nat.reduceLeDiff,↓reduceIte,gd18,l1,ne,gf18,ui,l3,ge18,ti,l4,hi]
    refine FZ.use one_c ?_
    simp (disch:=(first|omega|(simp only [qbf]<;>omega)|(simp only [qbd];done)|rfl)) only [zA,zB,zC,zD,zF,zG,zH,Nat.reduceEqDiff,Nat.reduceLT,Nat.reduceLeDiff,↓reduceIte,gf18,l3,ne]
    exact hJ _ _ ⟨rfl,rfl⟩
  · rintro j H18 ⟨rfl,rfl⟩ J
    simp (disch:=(first|omega|(simp only [qbf]<;>omega)|(simp only [qbd];done)|rfl)) only [zA,zB,zC,zD,zF,zG,zH,Nat.reduceEqDiff,Nat.reduceLT,Nat.reduceLeDiff,↓reduceIte,wl]
    exact hX18
end Go.Sim
