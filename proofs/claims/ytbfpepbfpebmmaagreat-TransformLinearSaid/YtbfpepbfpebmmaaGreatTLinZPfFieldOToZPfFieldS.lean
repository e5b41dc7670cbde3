/- Part of the proof: ZPfFieldO, ZPfFieldQ, ZPfFieldR, ZPfFieldS. -/
import Derived.Test.YtbfpepbfpebmmaaGreatTLinZShMixToZPfFieldI
set_option linter.all false
namespace Go.Sim.Pf
open Go Go.Proofs
theorem qq0 {p e:Nat} {m:List Nat} (hp:2≤p) (he6:e≤6) (x y:Nat):mulF p e m x y<p ^ e:=by
  obtain⟨h1,h2⟩:=qqx (p:=p) (e:=e) (k:=e) (m:=m) (x:=digs p x 12) (y:=digs p y 12) (by omega)
  have:=qm4 (p:=p) (by omega) ((mulR p e m (digs p x 12) (digs p y 12) e).take e) (fun z hz=>h2 z (List.mem_of_mem_take hz))
  rwa [List.length_take,h1,Nat.min_eq_left (by omega)] at this
def powR (p e:Nat) (m:List Nat):Nat→Nat→Nat→Nat→Nat
  | 0,out,_,_=>out
  | k+1,out,a,n=>if n=0 then out else powR p e m k (if n % 2=1 then mulF p e m out a else out) (mulF p e m a a) (n / 2)
def powF (p e:Nat) (m:List Nat) (a n:Nat):Nat:=powR p e m n 1 a n
theorem power_spec {p e b c x n:Nat} {m:List Nat} {H:AH} {el:TypeId} {op:Option Nat} {r:Bool} (hb:H[b]? = some (.cells (m.map nv) el op r)) (hm:m.length=e) (hmp:∀ z∈m,z<p) (hp:2≤p) (he:1≤e) (he6:e≤6) (hq:p ^ e≤64) (hx:x<1000) (hn:n<1000000) :
    FN Tryz.prog 209 [fldv p e b e c,nv x,nv n] H (fun v H'=>v=nv (powF p e m x n)∧H'=H):=by
  refine FN.gc0 (FN.of_compZ qbs xf209_ok (Nat.le_of_ble_eq_true rfl) ?_)
  simp (disch:=(first|omega|(simp only [List.length_map];omega)|(simp only [qbf]<;>omega)|(simp only [qbd];done)|rfl)) only [↓qbk,zC,zD,zF,zG,zH,Nat.reduceEqDiff,Nat.reduceLT,Nat.reduceLeDiff,↓reduceIte,xf209]
  have hb2:=fun (Y:AH)=>qcv (L:=Y) hb
  have hlt:=fun x y=>Nat.lt_of_lt_of_le (qq0 (m:=m) hp he6 x y) hq
  refine LZ.ind (fun k s H'=>∃ out a f,k≤f∧powR p e m f out a k=powF p e m x n∧out<1000∧a<1000∧k<1000000∧s.env 3=.pointer (some ⟨H.length,0,none⟩)∧s.env 7=nv out∧s.env 1=nv a∧s.env 2=nv k∧s.ds=[] ∧
     H'=H++[.cells [nv p,nv e,.slice (some ⟨b,0,none⟩) e c] 76 none false]) n ?_ ?_
  · refine⟨1,x,n,Nat.le_refl _,rfl,by omega,hx,hn,?_⟩
    simp (disch:=(first|omega|(simp only [List.length_map];omega)|(simp only [qbf]<;>omega)|(simp only [qbd];done)|rfl)) only [↓qbk,zC,zD,zF,zG,zH,Nat.reduceEqDiff,Nat.reduceLT,Nat.reduceLeDiff,↓reduceIte]
  · rintro k s H1 ⟨out,a,f,hf,hpw,ho,ha,hk,e3,e7,e1,e2,eds,rfl⟩
    rcases Nat.eq_zero_or_pos k with rfl|hpos
    · have hneg:¬0<0:=by omega
      have:out=powF p e m x n:=by rw [←hpw];cases f<;>simp [powR]
      simp (disch:=(first|omega|(simp only [List.length_map];omega)|(simp only [qbf]<;>omega)|(simp only [qbd];done)|rfl)) only [↓qbk,zC,zD,zF,zG,zH,Nat.reduceEqDiff,Nat.reduceLT,Nat.reduceLeDiff,↓reduceIte,e3,e7,e1,e2,eds,hneg,xf209]
      simp [ground,scal,this]
    · obtain⟨f',rfl⟩:∃ f',f=f'+1:=⟨f-1,by omega⟩
      have hk0:k≠0:=by omega
      simp only [powR,hk0,if_false] at hpw
      have g1:=hlt out a
      have g2:=hlt a a
      by_cases hodd:k % 2=1
      · rw [if_pos hodd] at hpw
        simp (disch:=(first|omega|(simp only [List.length_map];omega)|(simp only [qbf]<;>omega)|(simp only [qbd];done)|rfl)) only [↓qbk,zC,zD,zF,zG,zH,Nat.reduceEqDiff,Nat.reduceLT,Nat.reduceLeDiff,↓reduceIte,e3,e7,e1,e2,eds,hpos,hodd]
        refine FZ.use (qpj (hb2 _) hm hmp hp he he6 hq ho ha) ?_
        simp (disch:=(first|omega|(simp only [List.length_map];omega)|(simp only [qbf]<;>omega)|(simp only [qbd];done)|rfl)) only [↓qbk,zC,zD,zF,zG,zH,Nat.reduceEqDiff,Nat.reduceLT,Nat.reduceLeDiff,↓reduceIte,e3,e7,e1,e2,eds]
        refine FZ.use (qpj (hb2 _) hm hmp hp he he6 hq ha ha) ?_
        simp (disch:=(first|omega|(simp only [List.length_map];omega)|(simp only [qbf]<;>omega)|(simp only [qbd];done)|rfl)) only [↓qbk,zC,zD,zF,zG,zH,Nat.reduceEqDiff,Nat.reduceLT,Nat.reduceLeDiff,↓reduceIte,e3,e7,e1,e2,eds]
        exact⟨k / 2,by omega,_,_,f',by omega,hpw,by omega,by omega,by omega,rfl,rfl,rfl⟩
      · rw [if_neg hodd] at hpw
        simp (disch:=(first|omega|(simp only [List.length_map];omega)|(simp only [qbf]<;>omega)|(simp only [qbd];done)|rfl)) only [↓qbk,zC,zD,zF,zG,zH,Nat.reduceEqDiff,Nat.reduceLT,Nat.reduceLeDiff,↓reduceIte,e3,e7,e1,e2,eds,hpos,hodd]
        refine FZ.use (qpj (hb2 _) hm hmp hp he he6 hq ha ha) ?_
        simp (disch:=(first|omega|(simp only [List.length_map];omega)|(simp only [qbf]<;>omega)|(simp only [qbd];done)|rfl)) only [↓qbk,zC,zD,zF,zG,zH,Nat.reduceEqDiff,Nat.reduceLT,Nat.reduceLeDiff,↓reduceIte,e3,e7,e1,e2,eds]
        exact⟨k / 2,by omega,_,_,f',by omega,hpw,by omega,by omega,by omega,rfl,rfl,rfl⟩
end Go.Sim.Pf

namespace Go.Sim.Pf
open Go Go.Proofs
def powZ (p e:Nat) (m:List Nat) (a:Nat) (n:Int):Nat×Nat:=
  if n=0 then (1,0) else if a=0 then (if n<0 then (0,3) else (0,0)) else (powF p e m a (n % ((p ^ e:Nat)-1:Int)).toNat,0)
theorem FN.chg {P:Program} {g:FuncId} {a1 a2:List Value} {H:AH} {R:Value→AH→Prop} (h:FN P g a1 H R) (e:a1=a2):FN P g a2 H R:=e ▸ h
theorem pow_spec {p e b c x:Nat} {n:Int} {m:List Nat} {H:AH} {el:TypeId} {op:Option Nat} {r:Bool} (hb:H[b]? = some (.cells (m.map nv) el op r)) (hm:m.length=e) (hmp:∀ z∈m,z<p) (hp:2≤p) (he:1≤e) (he6:e≤6) (hq:p ^ e≤64) (hx:x<1000) :
    FN Tryz.prog 188 [fldv p e b e c,nv x,.int .i64 n] H (fun v H'=>v=.tuple [nv (powZ p e m x n).1,nv (powZ p e m x n).2].toArray∧H'=H):=by
  have hb2:=fun (Y:AH)=>qcv (L:=Y) hb
  by_cases hn:n=0
  · subst hn
    refine FN.chg (a1:=[fldv p e b e c,nv x,nv 0]) ?_ rfl
    refine FN.gc0 (FN.of_compZ qbs xf188_ok (Nat.le_of_ble_eq_true rfl) ?_)
    simp (disch:=(first|omega|(simp only [List.length_map];omega)|(simp only [qbf]<;>omega)|(simp only [qbd];done)|rfl)) only [↓qbk,zC,zD,zF,zG,zH,Nat.reduceEqDiff,Nat.reduceLT,Nat.reduceLeDiff,↓reduceIte,xf188]
    simp [ground,scal,powZ]
  refine FN.gc0 (FN.of_compZ qbs xf188_ok (Nat.le_of_ble_eq_true rfl) ?_)
  by_cases hx0:x=0
  · subst hx0
    by_cases hneg:n<0
    · have hnn:n<((0:Nat):Int):=hneg
      have hn':¬n=((0:Nat):Int):=hn
      simp (disch:=(first|omega|(simp only [List.length_map];omega)|(simp only [qbf]<;>omega)|(simp only [qbd];done)|rfl)) only [↓qbk,zC,zE,zF,zG,zH,Nat.reduceEqDiff,Nat.reduceLT,Nat.reduceLeDiff,↓reduceIte,xf188,hn',hnn]
      simp [ground,scal,powZ,hn,hneg]
    · have hnn:¬n<((0:Nat):Int):=hneg
      have hn':¬n=((0:Nat):Int):=hn
      simp (disch:=(first|omega|(simp only [List.length_map];omega)|(simp only [qbf]<;>omega)|(simp only [qbd];done)|rfl)) only [↓qbk,zC,zE,zF,zG,zH,Nat.reduceEqDiff,Nat.reduceLT,Nat.reduceLeDiff,↓reduceIte,xf188,hn',hnn]
      simp [ground,scal,powZ,hn,hneg]
  · have hn':¬n=((0:Nat):Int):=hn
    have hx':¬(x:Int)=((0:Nat):Int):=by omega
    simp (disch:=(first|omega|(simp only [List.length_map];omega)|(simp only [qbf]<;>omega)|(simp only [qbd];done)|rfl)) only [↓qbk,zC,zE,zF,zG,zH,Nat.reduceEqDiff,Nat.reduceLT,Nat.reduceLeDiff,↓reduceIte,xf188,hn',hx']
    refine FZ.use (qgd hp he he6 rfl hq) ?_
    simp (disch:=(first|omega|(simp only [List.length_map];omega)|(simp only [qbf]<;>omega)|(simp only [qbd];done)|rfl)) only [↓qbk,zC,zE,zF,zG,zH,Nat.reduceEqDiff,Nat.reduceLT,Nat.reduceLeDiff,↓reduceIte]
    refine FZ.use (size_spec hp he he6 rfl hq) ?_
    have hq2:2≤p ^ e:=Nat.le_trans hp (by simpa using Nat.pow_le_pow_right (show 0<p by omega) he)
    simp (disch:=(first|omega|(simp only [List.length_map];omega)|(simp only [qbf]<;>omega)|(simp only [qbd];done)|rfl)) only [↓qbk,zC,zD,zF,zG,zH,Nat.reduceEqDiff,Nat.reduceLT,Nat.reduceLeDiff,↓reduceIte]
    have hcast:(((p ^ e-1:Nat)):Int)=((p ^ e:Nat)-1:Int):=by omega
    refine FZ.use (qpk (by omega) (by omega)) ?_
    have h0:=Int.emod_nonneg n (show (((p ^ e-1:Nat)):Int)≠0 by omega)
    have h1:=Int.emod_lt_of_pos n (show (0:Int)<((p ^ e-1:Nat):Int) by omega)
    obtain⟨N,hN⟩:∃ N:Nat,n % ((p ^ e-1:Nat):Int)=N:=⟨_,(Int.toNat_of_nonneg h0).symm⟩
    rw [hN] at h0 h1 ⊢
    simp (disch:=(first|omega|(simp only [List.length_map];omega)|(simp only [qbf]<;>omega)|(simp only [qbd];done)|rfl)) only [↓qbk,zC,zD,zF,zG,zH,Nat.reduceEqDiff,Nat.reduceLT,Nat.reduceLeDiff,↓reduceIte]
    refine FZ.use (power_spec (hb2 _) hm hmp hp he he6 hq hx (show N<1000000 by omega)) ?_
    simp (disch:=(first|omega|(simp only [List.length_map];omega)|(simp only [qbf]<;>omega)|(simp only [qbd];done)|rfl)) only [↓qbk,zC,zD,zF,zG,zH,Nat.reduceEqDiff,Nat.reduceLT,Nat.reduceLeDiff,↓reduceIte,xf188]
    rw [hcast] at hN
    have hv:powZ p e m x n=(powF p e m x N,0):=by unfold powZ;rw [if_neg hn,if_neg hx0,hN];rfl
    rw [hv]
    simp [ground,scal]
theorem inv_spec {p e b c x:Nat} {m:List Nat} {H:AH} {el:TypeId} {op:Option Nat} {r:Bool} (hb:H[b]? = some (.cells (m.map nv) el op r)) (hm:m.length=e) (hmp:∀ z∈m,z<p) (hp:2≤p) (he:1≤e) (he6:e≤6) (hq:p ^ e≤64) (hx:x<1000) :
    FN Tryz.prog 142 [fldv p e b e c,nv x] H (fun v H'=>v=.tuple [nv (powZ p e m x (-1)).1,nv (powZ p e m x (-1)).2].toArray∧H'=H):=by
  refine FN.gc0 (FN.of_compZ qbs xf142_ok (Nat.le_of_ble_eq_true rfl) ?_)
  have hb2:=fun (Y:AH)=>qcv (L:=Y) hb
  simp (disch:=(first|omega|(simp only [List.length_map];omega)|(simp only [qbf]<;>omega)|(simp only [qbd];done)|rfl)) only [↓qbk,zC,zD,zF,zG,zH,Nat.reduceEqDiff,Nat.reduceLT,Nat.reduceLeDiff,↓reduceIte,xf142]
  refine FZ.use (pow_spec (hb2 _) hm hmp hp he he6 hq hx) ?_
  simp (disch:=(first|omega|(simp only [List.length_map];omega)|(simp only [qbf]<;>omega)|(simp only [qbd];done)|rfl)) only [↓qbk,zC,zD,zF,zG,zH,Nat.reduceEqDiff,Nat.reduceLT,Nat.reduceLeDiff,↓reduceIte,xf142]
  simp [ground,scal]
end Go.Sim.Pf

namespace Go.Sim.Pf
theorem qd3 (p:Nat):∀ (n a i:Nat),i<n→(digs p a n).getD i 0=a / p ^ i % p
  | 0,_,_,h=>by omega
  | n+1,a,0,_=>by simp [digs]
  | n+1,a,i+1,h=>by
    have:=qd3 p n (a / p) i (by omega)
    simp only [digs,List.getD_cons_succ,this,Nat.div_div_eq_div_mul,Nat.pow_succ,Nat.mul_comm]
theorem qgg {p:Nat} (hp:0<p):∀ (l:List Nat),(∀ d∈l,d<p)→∀ i,num p l / p ^ i % p=l.getD i 0
  | [],_,i=>by simp [num]
  | d :: l,h,0=>by
    have:=h d (by simp)
    simp [num,Nat.add_mul_mod_self_left,Nat.mod_eq_of_lt this]
  | d :: l,h,i+1=>by
    have hd:=h d (by simp)
    have:=qgg hp l (fun x hx=>h x (by simp [hx])) i
    rw [List.getD_cons_succ,←this,Nat.pow_succ,Nat.mul_comm (p ^ i),←Nat.div_div_eq_div_mul]
    congr 2
    rw [num,Nat.add_mul_div_left _ _ hp,Nat.div_eq_of_lt hd,Nat.zero_add]
theorem qcz {p:Nat} (hp:0<p):∀ (e a b:Nat),a<p ^ e→b<p ^ e→(∀ i,i<e→a / p ^ i % p=b / p ^ i % p)→a=b
  | 0,a,b,ha,hb,_=>by simp at ha hb;omega
  | e + 1,a,b,ha,hb,h=>by
    have h0:=h 0 (by omega)
    simp at h0
    have h1:=qcz hp e (a / p) (b / p) (by rw [Nat.pow_succ] at ha;exact Nat.div_lt_of_lt_mul (by rwa [Nat.mul_comm])) (by rw [Nat.pow_succ] at hb;exact Nat.div_lt_of_lt_mul (by rwa [Nat.mul_comm])) (fun i hi=>by
      have:=h (i+1) (by omega)
      rwa [Nat.pow_succ,Nat.mul_comm (p ^ i),←Nat.div_div_eq_div_mul,←Nat.div_div_eq_div_mul] at this)
    rw [←Nat.div_add_mod a p,←Nat.div_add_mod b p,h0,h1]
def dg (p a i:Nat):Nat:=a / p ^ i % p
theorem dg_lt {p a i:Nat} (hp:0<p):dg p a i<p:=Nat.mod_lt _ hp
theorem qft {p e a b:Nat} (hp:0<p):addF p e a b<p ^ e:=by
  have hl:(addL p (digs p a e) (digs p b e)).length=e:=by simp [addL,qbp]
  have:=qm4 (p:=p) hp (addL p (digs p a e) (digs p b e)) (addL_lt hp)
  rwa [hl] at this
theorem qdx {p e a b i:Nat} (hp:0<p) (hi:i<e):dg p (addF p e a b) i=(dg p a i+dg p b i) % p:=by
  unfold dg addF
  rw [qgg hp _ (addL_lt hp),addL_getD (qbp p e a) (qbp p e b) i hi,qd3 p e a i hi,qd3 p e b i hi]
theorem getD_set {l:List Nat} {i j v:Nat} (hi:i<l.length):(l.set i v).getD j 0=if i=j then v else l.getD j 0:=by
  simp only [List.getD_eq_getElem?_getD,List.getElem?_set]
  by_cases h:i=j
  · subst h;simp [hi]
  · simp [h]
theorem md_getD {p t c:Nat} {m x o:List Nat}:∀ (n:Nat),n≤o.length→((List.range n).foldl (mdK p t c m x) o).length=o.length∧∀ j,((List.range n).foldl (mdK p t c m x) o).getD j 0=if j<n then (((o.getD j 0:Int)-t*m.getD j 0+c*x.getD j 0) % p).toNat else o.getD j 0
  | 0,_=>by simp
  | n + 1,h=>by
    obtain⟨h1,h2⟩:=md_getD (p:=p) (t:=t) (c:=c) (m:=m) (x:=x) (o:=o) n (by omega)
    rw [List.range_succ,List.foldl_append]
    simp only [List.foldl_cons,List.foldl_nil]
    generalize (List.range n).foldl (mdK p t c m x) o=O at *
    refine⟨by simp [mdK,h1],fun j=>?_⟩
    unfold mdK
    rw [getD_set (by omega)]
    by_cases hj:n=j
    · subst hj
      rw [if_pos rfl,if_pos (by omega),h2,if_neg (by omega)]
    · rw [if_neg hj,h2]
      by_cases hn:j<n
      · rw [if_pos hn,if_pos (by omega)]
      · rw [if_neg hn,if_neg (by omega)]
theorem sh_getD {e:Nat} {o:List Nat} (he:e≤o.length):∀ (n:Nat),n≤e-1→((List.range n).foldl (shK e) o).length=o.length∧∀ j,((List.range n).foldl (shK e) o).getD j 0=if e-1-n<j∧j≤e-1 then o.getD (j-1) 0 else o.getD j 0
  | 0,_=>by
    refine⟨rfl,fun j=>?_⟩
    rw [if_neg (by omega)];rfl
  | n + 1,h=>by
    obtain⟨h1,h2⟩:=sh_getD he n (by omega)
    rw [List.range_succ,List.foldl_append]
    simp only [List.foldl_cons,List.foldl_nil]
    generalize (List.range n).foldl (shK e) o=O at *
    refine⟨by simp [shK,h1],fun j=>?_⟩
    unfold shK
    rw [getD_set (by omega),h2]
    by_cases hj:e-1-n=j
    · subst hj
      rw [if_pos rfl,if_neg (by omega),if_pos (by omega)]
    · rw [if_neg hj,h2]
      by_cases hc:e-1-n<j∧j≤e-1
      · rw [if_pos hc,if_pos (by omega)]
      · rw [if_neg hc,if_neg (by omega)]
def RR (p e:Nat) (m x y:Nat→Int):Nat→Nat→Int
  | 0,_=>0
  | k+1,i=>((if i=0 then 0 else RR p e m x y k (i-1))-RR p e m x y k (e-1)*m i+y (e-1-k)*x i) % p
theorem mulS_getD {p e c:Nat} {m x o:List Nat} (hp:0<p) (hl:o.length=12) (he:1≤e) (he6:e≤6) (i:Nat) (hi:i<e) :
    (((mulS p e m x o c).getD i 0:Nat):Int)=((if i=0 then 0 else (o.getD (i-1) 0:Int))-o.getD (e-1) 0*m.getD i 0+c*x.getD i 0) % p:=by
  obtain⟨h1,h2⟩:=sh_getD (e:=e) (o:=o) (by omega) (e-1) (Nat.le_refl _)
  unfold mulS
  have hlen:(((List.range (e-1)).foldl (shK e) o).set 0 0).length=12:=by simp [h1,hl]
  rw [(md_getD e (by omega)).2 i,if_pos hi,Int.toNat_of_nonneg (Int.emod_nonneg _ (by omega)),getD_set (by omega),h2]
  by_cases h0:i=0
  · subst h0;simp
  · rw [if_neg (by omega),if_pos (by omega),if_neg h0]
theorem mulR_RR {p e:Nat} {m x y:List Nat} (hp:0<p) (he:1≤e) (he6:e≤6):∀ (k i:Nat),i<e →
    (((mulR p e m x y k).getD i 0:Nat):Int)=RR p e (fun j=>m.getD j 0) (fun j=>x.getD j 0) (fun j=>y.getD j 0) k i
  | 0,i,_=>by
    simp only [mulR,List.range_zero,List.foldl_nil,RR,List.getD_eq_getElem?_getD,List.getElem?_replicate]
    split<;>rfl
  | k + 1,i,hi=>by
    have hR:mulR p e m x y (k+1)=mulS p e m x (mulR p e m x y k) (y.getD (e-1-k) 0):=by
      simp only [mulR,List.range_succ,List.foldl_append,List.foldl_cons,List.foldl_nil]
    rw [hR,mulS_getD hp (qqx hp).1 he he6 i hi,RR]
    have h1:=mulR_RR (m:=m) (x:=x) (y:=y) hp he he6 k (e-1) (by omega)
    by_cases h0:i=0
    · subst h0;rw [if_pos rfl,if_pos rfl,h1]
    · have h2:=mulR_RR (m:=m) (x:=x) (y:=y) hp he he6 k (i-1) (by omega)
      rw [if_neg h0,if_neg h0,h1,h2]
theorem RR_add {p e:Nat} {m x1 y1 x2 y2 x3 y3:Nat→Int} (he:1≤e) (h:∀ i j,i<e→j<e→∃ t,y3 j*x3 i=y1 j*x1 i+y2 j*x2 i+p*t):∀ (k i:Nat),k≤e→i<e →
    ∃ t,RR p e m x3 y3 k i=RR p e m x1 y1 k i+RR p e m x2 y2 k i+p*t
  | 0,_,_,_=>⟨0,by simp [RR]⟩
  | k + 1,i,hk,hi=>by
    obtain⟨t1,h1⟩:=RR_add (m:=m) he h k (e-1) (by omega) (by omega)
    obtain⟨t2,h2⟩:=h i (e-1-k) hi (by omega)
    have h3:∃ t,(if i=0 then 0 else RR p e m x3 y3 k (i-1))=(if i=0 then 0 else RR p e m x1 y1 k (i-1))+(if i=0 then 0 else RR p e m x2 y2 k (i-1))+p*t:=by
      by_cases h0:i=0
      · exact⟨0,by simp [h0]⟩
      · simp only [h0,if_false]
        exact RR_add he h k (i-1) (by omega) (by omega)
    obtain⟨t3,h3⟩:=h3
    simp only [RR]
    rw [h2,h3,h1]
    generalize (if i=0 then 0 else RR p e m x1 y1 k (i-1))=a1
    generalize (if i=0 then 0 else RR p e m x2 y2 k (i-1))=a2
    generalize RR p e m x1 y1 k (e-1)=b1
    generalize RR p e m x2 y2 k (e-1)=b2
    generalize y1 (e-1-k)*x1 i=c1
    generalize y2 (e-1-k)*x2 i=c2
    generalize m i=mi
    have e3:=Int.mul_ediv_add_emod (a1+a2+p*t3-(b1+b2+p*t1)*mi+(c1+c2+p*t2)) p
    have e1:=Int.mul_ediv_add_emod (a1-b1*mi+c1) p
    have e2:=Int.mul_ediv_add_emod (a2-b2*mi+c2) p
    generalize (a1+a2+p*t3-(b1+b2+p*t1)*mi+(c1+c2+p*t2)) / (p:Int)=q3 at *
    generalize (a1-b1*mi+c1) / (p:Int)=q1 at *
    generalize (a2-b2*mi+c2) / (p:Int)=q2 at *
    exact⟨t3-t1*mi+t2-q3+q1+q2,by grind⟩
theorem RR_zero {p e:Nat} {m x y:Nat→Int} (he:1≤e) (h:∀ i j,i<e→j<e→y j*x i=0):∀ (k i:Nat),k≤e→i<e→RR p e m x y k i=0
  | 0,_,_,_=>rfl
  | k+1,i,hk,hi=>by
    simp only [RR]
    rw [h i (e-1-k) hi (by omega),RR_zero he h k (e-1) (by omega) (by omega)]
    by_cases h0:i=0
    · simp [h0]
    · rw [if_neg h0,RR_zero he h k (i-1) (by omega) (by omega)];simp
structure Fd (p e:Nat) (m:List Nat):Prop where
  p2:2≤p
  e1:1≤e
  e6:e≤6
  len:m.length=e
  lt:∀ z∈m,z<p
  q:p ^ e≤64
theorem mulF_dg {p e:Nat} {m:List Nat} (F:Fd p e m) (a b i:Nat) (hi:i<e):(dg p (mulF p e m a b) i:Int)=RR p e (fun j=>m.getD j 0) (fun j=>(digs p a 12).getD j 0) (fun j=>(digs p b 12).getD j 0) e i:=by
  have hp:=F.p2
  have h6:=F.e6
  obtain⟨h1,h2⟩:=qqx (p:=p) (e:=e) (k:=e) (m:=m) (x:=digs p a 12) (y:=digs p b 12) (by omega)
  rw [←mulR_RR (by omega) F.e1 F.e6 e i hi]
  unfold dg mulF
  rw [qgg (by omega) _ (fun z hz=>h2 z (List.mem_of_mem_take hz))]
  simp only [List.getD_eq_getElem?_getD,List.getElem?_take,if_pos hi]
theorem dg12 {p a j:Nat} (hj:j<12):(digs p a 12).getD j 0=dg p a j:=qd3 p 12 a j hj
theorem mod_of {p z a b:Nat} {t:Int} (hp:0<p) (hz:z<p) (h:(z:Int)=a+b+p*t):z=(a+b) % p:=by
  have h1:(z:Int) % p=((a+b:Nat):Int) % p:=by rw [h,Int.add_mul_emod_self_left];simp
  rw [Int.emod_eq_of_lt (by omega) (by omega)] at h1
  have:(((a+b) % p:Nat):Int)=((a+b:Nat):Int) % p:=by simp
  omega
theorem qh9 {p e a b j:Nat} (hp:0<p) (hj:j<e):∃ t:Int,(dg p (addF p e a b) j:Int)=dg p a j+dg p b j+p*t:=by
  have h:=qdx (p:=p) (e:=e) (a:=a) (b:=b) hp hj
  have h2:=Nat.div_add_mod (dg p a j+dg p b j) p
  rw [←h] at h2
  refine⟨-((dg p a j+dg p b j) / p:Nat),?_⟩
  have:((p*((dg p a j+dg p b j) / p)+dg p (addF p e a b) j:Nat):Int)=((dg p a j+dg p b j:Nat):Int):=by rw [h2]
  rw [Int.mul_neg]
  simp only [Int.natCast_add,Int.natCast_mul] at this
  omega
theorem mul_bil {p e:Nat} {m:List Nat} (F:Fd p e m) {a1 b1 a2 b2 a3 b3:Nat} (h:∀ i j,i<e→j<e→∃ t:Int,(dg p b3 j:Int)*dg p a3 i=dg p b1 j*dg p a1 i+dg p b2 j*dg p a2 i+p*t) :
    mulF p e m a3 b3=addF p e (mulF p e m a1 b1) (mulF p e m a2 b2):=by
  have hp:=F.p2
  have h6:=F.e6
  refine qcz (by omega) e _ _ (qq0 F.p2 F.e6 _ _) (qft (by omega)) (fun i hi=>?_)
  have hd:=qdx (p:=p) (e:=e) (a:=mulF p e m a1 b1) (b:=mulF p e m a2 b2) (by omega) hi
  refine Eq.trans ?_ hd.symm
  obtain⟨t,ht⟩:=RR_add (p:=p) (e:=e) (m:=fun j=>m.getD j 0) (x1:=fun j=>(digs p a1 12).getD j 0) (y1:=fun j=>(digs p b1 12).getD j 0) (x2:=fun j=>(digs p a2 12).getD j 0) (y2:=fun j=>(digs p b2 12).getD j 0) (x3:=fun j=>(digs p a3 12).getD j 0) (y3:=fun j=>(digs p b3 12).getD j 0) F.e1 (fun i j hi hj=>by
    simp only [dg12 (show i<12 by omega),dg12 (show j<12 by omega)]
    exact h i j hi hj) e i (Nat.le_refl _) hi
  rw [←mulF_dg F a3 b3 i hi,←mulF_dg F a1 b1 i hi,←mulF_dg F a2 b2 i hi] at ht
  exact mod_of (by omega) (dg_lt (by omega)) ht
theorem qd0 {p e:Nat} {m:List Nat} (F:Fd p e m) (a b c:Nat):mulF p e m a (addF p e b c)=addF p e (mulF p e m a b) (mulF p e m a c):=by
  have hp:=F.p2
  refine mul_bil F (fun i j hi hj=>?_)
  obtain⟨t,ht⟩:=qh9 (p:=p) (e:=e) (a:=b) (b:=c) (by omega) hj
  exact⟨t*dg p a i,by rw [ht];grind⟩
theorem qf2 {p e:Nat} {m:List Nat} (F:Fd p e m) (a b c:Nat):mulF p e m (addF p e a b) c=addF p e (mulF p e m a c) (mulF p e m b c):=by
  have hp:=F.p2
  refine mul_bil F (fun i j hi hj=>?_)
  obtain⟨t,ht⟩:=qh9 (p:=p) (e:=e) (a:=a) (b:=b) (by omega) hi
  exact⟨t*dg p c j,by rw [ht];grind⟩
theorem dg_zero {p i:Nat}:dg p 0 i=0:=by simp [dg]
theorem qgj {p e:Nat} {m:List Nat} (F:Fd p e m) (a b:Nat) (h:a=0∨b=0):mulF p e m a b=0:=by
  have hp:=F.p2
  have h6:=F.e6
  refine qcz (by omega) e _ _ (qq0 F.p2 F.e6 _ _) (Nat.pow_pos (by omega)) (fun i hi=>?_)
  have h1:=mulF_dg F a b i hi
  rw [RR_zero F.e1 (fun i j hi hj=>by
    simp only [dg12 (show i<12 by omega),dg12 (show j<12 by omega)]
    rcases h with rfl|rfl<;>simp [dg_zero]) e i (Nat.le_refl _) hi] at h1
  have h2:dg p (mulF p e m a b) i=0:=by omega
  exact h2.trans dg_zero.symm
end Go.Sim.Pf

namespace Go.Sim.Pf
theorem addF_comm {p e:Nat} (hp:0<p) (a b:Nat):addF p e a b=addF p e b a:=
  qcz hp e _ _ (qft hp) (qft hp) (fun i hi=>by
    have h1:=qdx (p:=p) (e:=e) (a:=a) (b:=b) hp hi
    have h2:=qdx (p:=p) (e:=e) (a:=b) (b:=a) hp hi
    rw [Nat.add_comm] at h2
    exact h1.trans h2.symm)
theorem addF_assoc {p e:Nat} (hp:0<p) (a b c:Nat):addF p e (addF p e a b) c=addF p e a (addF p e b c):=
  qcz hp e _ _ (qft hp) (qft hp) (fun i hi=>by
    have h1:=qdx (p:=p) (e:=e) (a:=addF p e a b) (b:=c) hp hi
    have h2:=qdx (p:=p) (e:=e) (a:=a) (b:=addF p e b c) hp hi
    rw [qdx (a:=a) (b:=b) hp hi] at h1
    rw [qdx (a:=b) (b:=c) hp hi] at h2
    rw [Nat.mod_add_mod,Nat.add_assoc] at h1
    rw [Nat.add_mod_mod] at h2
    exact h1.trans h2.symm)
theorem qr3 {p e a:Nat} (hp:0<p) (ha:a<p ^ e):addF p e a 0=a:=
  qcz hp e _ _ (qft hp) ha (fun i hi=>by
    have h1:=qdx (p:=p) (e:=e) (a:=a) (b:=0) hp hi
    rw [dg_zero,Nat.add_zero,Nat.mod_eq_of_lt (dg_lt hp)] at h1
    exact h1)
theorem subL_length {p e a b:Nat}:(subL p (digs p a e) (digs p b e)).length=e:=by simp [subL,qbp]
theorem subL_lt {p:Nat} (hp:0<p) {x y:List Nat}:∀ z∈subL p x y,z<p:=by
  intro z hz
  simp only [subL] at hz
  obtain⟨i,hi,rfl⟩:=List.getElem_of_mem hz
  simp only [List.getElem_zipWith]
  exact Nat.mod_lt _ hp
theorem subF_lt {p e a b:Nat} (hp:0<p):subF p e a b<p ^ e:=by
  have:=qm4 (p:=p) hp (subL p (digs p a e) (digs p b e)) (subL_lt hp)
  rwa [subL_length] at this
theorem subF_dg {p e a b i:Nat} (hp:0<p) (hi:i<e):dg p (subF p e a b) i=(dg p a i+p-dg p b i) % p:=by
  have key:(subL p (digs p a e) (digs p b e)).getD i 0=((digs p a e).getD i 0+p-(digs p b e).getD i 0) % p:=by
    have l1:=qbp p e a
    have l2:=qbp p e b
    simp only [subL,List.getD_eq_getElem?_getD,List.getElem?_zipWith]
    rw [List.getElem?_eq_getElem (by omega),List.getElem?_eq_getElem (by omega)]
    rfl
  unfold dg subF
  rw [qgg hp _ (subL_lt hp),key,qd3 p e a i hi,qd3 p e b i hi]
theorem sub_addF {p e a b:Nat} (hp:0<p) (ha:a<p ^ e):subF p e (addF p e a b) b=a:=
  qcz hp e _ _ (subF_lt hp) ha (fun i hi=>by
    have h1:=subF_dg (p:=p) (e:=e) (a:=addF p e a b) (b:=b) hp hi
    rw [qdx hp hi] at h1
    have ha:=dg_lt (p:=p) (a:=a) (i:=i) hp
    have hb:=dg_lt (p:=p) (a:=b) (i:=i) hp
    refine Eq.trans h1 ?_
    show _=dg p a i
    generalize dg p a i=x at *
    generalize dg p b i=y at *
    rcases Nat.lt_or_ge (x+y) p with h|h
    · rw [Nat.mod_eq_of_lt h,show x+y+p-y=x+p by omega,Nat.add_mod_right,Nat.mod_eq_of_lt ha]
    · rw [Nat.mod_eq_sub_mod h,Nat.mod_eq_of_lt (show x+y-p<p by omega),show x+y-p+p-y=x by omega,Nat.mod_eq_of_lt ha])
theorem add_negF {p e a:Nat} (hp:0<p):addF p e a (subF p e 0 a)=0:=
  qcz hp e _ _ (qft hp) (Nat.pow_pos hp) (fun i hi=>by
    have h1:=qdx (p:=p) (e:=e) (a:=a) (b:=subF p e 0 a) hp hi
    rw [subF_dg hp hi,dg_zero,Nat.add_mod_mod] at h1
    have ha:=dg_lt (p:=p) (a:=a) (i:=i) hp
    rw [show dg p a i+(0+p-dg p a i)=p by omega,Nat.mod_self] at h1
    exact h1.trans dg_zero.symm)
def genB (p e:Nat):Bool:=(List.range (p ^ e)).all fun a=>Nat.beq a 0 || (List.range e).any fun i=>Nat.ble (p ^ i) a && Nat.beq (addF p e (a-p ^ i) (p ^ i)) a
theorem gen {p e:Nat} (hp:0<p) (hB:genB p e=true) (P:Nat→Prop) (h0:P 0) (hb:∀ i,i<e→P (p ^ i)) (ha:∀ a b,P a→P b→P (addF p e a b)):∀ n a,a<n→a<p ^ e→P a
  | 0,_,h,_=>by omega
  | n + 1,a,hn,hq=>by
    have h:=List.all_eq_true.1 hB a (List.mem_range.2 hq)
    simp only [Bool.or_eq_true,List.any_eq_true,Bool.and_eq_true,List.mem_range] at h
    rcases h with h|⟨i,hi,h1,h2⟩
    · rw [Nat.eq_of_beq_eq_true h];exact h0
    · have h1:=Nat.le_of_ble_eq_true h1
      have hpos:0<p ^ i:=Nat.pow_pos hp
      rw [←Nat.eq_of_beq_eq_true h2]
      exact ha _ _ (gen hp hB P h0 hb ha n _ (by omega) (by omega)) (hb i hi)
def basB (p e:Nat) (m:List Nat):Bool:=(List.range e).all fun i =>
  Nat.beq (mulF p e m 1 (p ^ i)) (p ^ i) && (Nat.beq (i+1) e || Nat.beq (mulF p e m p (p ^ i)) (p ^ (i+1))) &&
  (List.range e).all fun j=>Nat.beq (mulF p e m (p ^ i) (p ^ j)) (mulF p e m (p ^ j) (p ^ i)) && Nat.beq (mulF p e m (mulF p e m p (p ^ i)) (p ^ j)) (mulF p e m p (mulF p e m (p ^ i) (p ^ j)))
def expB (p e:Nat) (m:List Nat) (g:Nat) (E:List Nat):Bool:=
  Nat.beq E.length (p ^ e-1) && Nat.beq (E.getD 0 0) 1 &&
  (List.range (p ^ e-1)).all (fun k=>Nat.blt (E.getD k 0) (p ^ e) && (Nat.beq k 0 || !Nat.beq (E.getD k 0) 1) && !Nat.beq (E.getD k 0) 0 && Nat.beq (mulF p e m g (E.getD k 0)) (E.getD ((k+1) % (p ^ e-1)) 0)) &&
  (List.range (p ^ e)).all (fun a=>Nat.beq a 0 || (List.range (p ^ e-1)).any fun k=>Nat.beq (E.getD k 0) a) && Nat.blt g (p ^ e)
structure FT (p e:Nat) (m:List Nat) (g:Nat) (E:List Nat):Prop extends Fd p e m where
  gn:genB p e=true
  bs:basB p e m=true
  ex:expB p e m g E=true
section
variable {p e:Nat} {m:List Nat} {g:Nat} {E:List Nat} (F:FT p e m g E)
include F
theorem FT.hp:0<p:=by have:=F.p2;omega
theorem FT.q2:2≤p ^ e:=Nat.le_trans F.p2 (by simpa using Nat.pow_le_pow_right F.hp F.e1)
theorem FT.gen (P:Nat→Prop) (h0:P 0) (hb:∀ i,i<e→P (p ^ i)) (ha:∀ a b,P a→P b→P (addF p e a b)) (a:Nat) (h:a<p ^ e):P a:=Pf.gen F.hp F.gn P h0 hb ha _ a h h
theorem FT.bas (i:Nat) (hi:i<e):mulF p e m 1 (p ^ i)=p ^ i∧(i+1<e→mulF p e m p (p ^ i)=p ^ (i+1))∧∀ j,j<e→mulF p e m (p ^ i) (p ^ j)=mulF p e m (p ^ j) (p ^ i)∧mulF p e m (mulF p e m p (p ^ i)) (p ^ j)=mulF p e m p (mulF p e m (p ^ i) (p ^ j)):=by
  have h:=List.all_eq_true.1 F.bs i (List.mem_range.2 hi)
  simp only [Bool.and_eq_true,Bool.or_eq_true,List.all_eq_true,List.mem_range] at h
  obtain⟨⟨h1,h2⟩,h3⟩:=h
  refine⟨Nat.eq_of_beq_eq_true h1,fun hlt=>?_,fun j hj=>⟨Nat.eq_of_beq_eq_true (h3 j hj).1,Nat.eq_of_beq_eq_true (h3 j hj).2⟩⟩
  rcases h2 with h2|h2
  · have:=Nat.eq_of_beq_eq_true h2;omega
  · exact Nat.eq_of_beq_eq_true h2
theorem FT.mul_comm (a b:Nat) (ha:a<p ^ e) (hb:b<p ^ e):mulF p e m a b=mulF p e m b a:=by
  have Z:=fun a b h=>qgj F.toFd a b h
  refine F.gen (fun a=>mulF p e m a b=mulF p e m b a) ?_ (fun i hi=>?_) (fun x y hx hy=>?_) a ha
  · rw [Z 0 b (.inl rfl),Z b 0 (.inr rfl)]
  · refine F.gen (fun b=>mulF p e m (p ^ i) b=mulF p e m b (p ^ i)) ?_ (fun j hj=>((F.bas i hi).2.2 j hj).1) (fun x y hx hy=>?_) b hb
    · rw [Z _ 0 (.inr rfl),Z 0 _ (.inl rfl)]
    · rw [qd0 F.toFd,qf2 F.toFd,hx,hy]
  · rw [qd0 F.toFd,qf2 F.toFd,hx,hy]
theorem FT.one_mul (a:Nat) (ha:a<p ^ e):mulF p e m 1 a=a:=by
  have Z:=fun a b h=>qgj F.toFd a b h
  refine F.gen (fun a=>mulF p e m 1 a=a) (Z _ _ (.inr rfl)) (fun i hi=>(F.bas i hi).1) (fun x y hx hy=>?_) a ha
  rw [qd0 F.toFd,hx,hy]
theorem FT.x_assoc (a b:Nat) (ha:a<p ^ e) (hb:b<p ^ e):mulF p e m (mulF p e m p a) b=mulF p e m p (mulF p e m a b):=by
  have Z:=fun a b h=>qgj F.toFd a b h
  refine F.gen (fun a=>mulF p e m (mulF p e m p a) b=mulF p e m p (mulF p e m a b)) ?_ (fun i hi=>?_) (fun x y hx hy=>?_) a ha
  · rw [Z _ 0 (.inr rfl),Z 0 b (.inl rfl),Z _ 0 (.inr rfl)]
  · refine F.gen (fun b=>mulF p e m (mulF p e m p (p ^ i)) b=mulF p e m p (mulF p e m (p ^ i) b)) ?_ (fun j hj=>((F.bas i hi).2.2 j hj).2) (fun x y hx hy=>?_) b hb
    · rw [Z _ 0 (.inr rfl),Z _ 0 (.inr rfl),Z _ 0 (.inr rfl)]
    · rw [qd0 F.toFd,qd0 F.toFd,qd0 F.toFd,hx,hy]
  · rw [qd0 F.toFd,qf2 F.toFd,qf2 F.toFd,qd0 F.toFd,hx,hy]
theorem FT.mul_lt (a b:Nat):mulF p e m a b<p ^ e:=qq0 F.p2 F.e6 a b
theorem FT.mul_assoc (a b c:Nat) (ha:a<p ^ e) (hb:b<p ^ e) (hc:c<p ^ e):mulF p e m (mulF p e m a b) c=mulF p e m a (mulF p e m b c):=by
  have Z:=fun a b h=>qgj F.toFd a b h
  refine F.gen (fun a=>mulF p e m (mulF p e m a b) c=mulF p e m a (mulF p e m b c)) ?_ (fun i=>?_) (fun x y hx hy=>?_) a ha
  · rw [Z 0 b (.inl rfl),Z 0 c (.inl rfl),Z 0 _ (.inl rfl)]
  · induction i with
    | zero=>intro _;rw [Nat.pow_zero,F.one_mul b hb,F.one_mul _ (F.mul_lt _ _)]
    | succ i ih =>
      intro hi
      rw [←(F.bas i (by omega)).2.1 hi]
      have hpi:p ^ i<p ^ e:=Nat.pow_lt_pow_right (by have:=F.p2;omega) (by omega)
      rw [F.x_assoc _ b hpi hb,F.x_assoc _ c (F.mul_lt _ _) hc,ih (by omega),F.x_assoc _ _ hpi (F.mul_lt _ _)]
  · rw [qf2 F.toFd,qf2 F.toFd,qf2 F.toFd,hx,hy]
theorem FT.mul_one (a:Nat) (ha:a<p ^ e):mulF p e m a 1=a:=by
  rw [F.mul_comm a 1 ha (by have:=F.q2;omega),F.one_mul a ha]
theorem FT.exs:E.getD 0 0=1∧(∀ k,k<p ^ e-1→E.getD k 0<p ^ e∧(k≠0→E.getD k 0≠1)∧E.getD k 0≠0∧mulF p e m g (E.getD k 0)=E.getD ((k+1) % (p ^ e-1)) 0) ∧
    (∀ a,a<p ^ e→a≠0→∃ k,k<p ^ e-1∧E.getD k 0=a)∧g<p ^ e:=by
  have h:=F.ex
  simp only [expB,Bool.and_eq_true,List.all_eq_true,Bool.or_eq_true,List.any_eq_true,List.mem_range,Bool.not_eq_true'] at h
  obtain⟨⟨⟨⟨h1,h2⟩,h3⟩,h4⟩,h5⟩:=h
  refine⟨Nat.eq_of_beq_eq_true h2,fun k hk=>?_,fun a ha h0=>?_,?_⟩
  · obtain⟨⟨⟨q1,q2⟩,q3⟩,q4⟩:=h3 k hk
    refine⟨Nat.lt_of_lt_of_le (Nat.lt_succ_self _) (Nat.le_of_ble_eq_true q1),fun hk0 h1=>?_,fun h0=>?_,Nat.eq_of_beq_eq_true q4⟩
    · rcases q2 with q2|q2
      · exact hk0 (Nat.eq_of_beq_eq_true q2)
      · rw [h1] at q2;cases q2
    · rw [h0] at q3;cases q3
  · rcases h4 a ha with h|⟨k,hk,h⟩
    · exact absurd (Nat.eq_of_beq_eq_true h) h0
    · exact⟨k,hk,Nat.eq_of_beq_eq_true h⟩
  · exact Nat.lt_of_lt_of_le (Nat.lt_succ_self _) (Nat.le_of_ble_eq_true h5)
def pw (p e:Nat) (m:List Nat) (a:Nat):Nat→Nat
  | 0=>1
  | n+1=>mulF p e m a (pw p e m a n)
omit F in
theorem pw_lt (hq:2≤p ^ e) (hp:2≤p) (he:e≤6) (a:Nat):∀ n,pw p e m a n<p ^ e
  | 0=>hq
  | _+1=>qq0 hp he _ _
theorem FT.pw_lt (a n:Nat):pw p e m a n<p ^ e:=Pf.pw_lt F.q2 F.p2 F.e6 a n
theorem FT.pw_add (a:Nat) (ha:a<p ^ e) (n:Nat):∀ k,pw p e m a (k+n)=mulF p e m (pw p e m a k) (pw p e m a n)
  | 0=>by rw [Nat.zero_add,pw,F.one_mul _ (F.pw_lt a n)]
  | k+1=>by
    rw [Nat.add_right_comm,pw,FT.pw_add a ha n k,pw,F.mul_assoc _ _ _ ha (F.pw_lt a k) (F.pw_lt a n)]
theorem FT.pw_one (a:Nat) (ha:a<p ^ e):pw p e m a 1=a:=by rw [pw,pw,F.mul_one a ha]
theorem FT.pw_mul (a:Nat) (ha:a<p ^ e) (n:Nat):∀ k,pw p e m a (k*n)=pw p e m (pw p e m a n) k
  | 0=>by simp [pw]
  | k+1=>by rw [Nat.succ_mul,Nat.add_comm,F.pw_add a ha,FT.pw_mul a ha n k,pw]
theorem FT.powR (f:Nat):∀ out a n,out<p ^ e→a<p ^ e→n≤f→powR p e m f out a n=mulF p e m out (pw p e m a n):=by
  induction f with
  | zero => intro out a n ho ha hn;obtain rfl:n=0:=by omega
            rw [Pf.powR,pw,F.mul_one out ho]
  | succ f ih =>
    intro out a n ho ha hn
    rw [Pf.powR]
    by_cases h0:n=0
    · subst h0;rw [if_pos rfl,pw,F.mul_one out ho]
    · rw [if_neg h0,ih _ _ _ (by split;exact F.mul_lt _ _;exact ho) (F.mul_lt _ _) (by omega)]
      have hsq:pw p e m (mulF p e m a a) (n / 2)=pw p e m a (n / 2+n / 2):=by
        have h2:mulF p e m a a=pw p e m a 2:=by rw [pw,F.pw_one a ha]
        rw [h2,←F.pw_mul a ha 2 (n / 2)];congr 1;omega
      rw [hsq]
      by_cases h1:n % 2=1
      · rw [if_pos h1,F.mul_assoc _ _ _ ho ha (F.pw_lt _ _)]
        congr 1
        rw [show n=(n / 2+n / 2)+1 by omega,pw]
        congr 2;omega
      · rw [if_neg h1];congr 2;omega
theorem FT.powF (a n:Nat) (ha:a<p ^ e):powF p e m a n=pw p e m a n:=by
  rw [Pf.powF,F.powR n 1 a n (by have:=F.q2;omega) ha (Nat.le_refl _),F.one_mul _ (F.pw_lt _ _)]
theorem FT.pw_g (k:Nat):pw p e m g k=E.getD (k % (p ^ e-1)) 0:=by
  obtain⟨h0,h1,_,hg⟩:=F.exs
  have:=F.q2
  induction k with
  | zero=>rw [Nat.zero_mod,h0];rfl
  | succ k ih =>
    rw [pw,ih,(h1 _ (Nat.mod_lt _ (by omega))).2.2.2,Nat.mod_add_mod]
theorem FT.log (a:Nat) (ha:a<p ^ e) (h0:a≠0):∃ k,k<p ^ e-1∧a=pw p e m g k:=by
  obtain⟨_,_,h2,_⟩:=F.exs
  obtain⟨k,hk,rfl⟩:=h2 a ha h0
  exact⟨k,hk,by rw [F.pw_g,Nat.mod_eq_of_lt hk]⟩
theorem FT.pw_g_ne (k:Nat):pw p e m g k≠0:=by
  have:=F.q2
  rw [F.pw_g]
  exact (F.exs.2.1 _ (Nat.mod_lt _ (by omega))).2.2.1
theorem FT.pw_g_one (k:Nat):pw p e m g k=1↔k % (p ^ e-1)=0:=by
  have:=F.q2
  rw [F.pw_g]
  constructor
  · intro h
    by_cases h0:k % (p ^ e-1)=0
    · exact h0
    · exact absurd h ((F.exs.2.1 _ (Nat.mod_lt _ (by omega))).2.1 h0)
  · intro h;rw [h];exact F.exs.1
theorem FT.pw_q (a:Nat) (ha:a<p ^ e) (h0:a≠0):pw p e m a (p ^ e-1)=1:=by
  obtain⟨k,hk,rfl⟩:=F.log a ha h0
  rw [←F.pw_mul g F.exs.2.2.2,F.pw_g_one,Nat.mul_mod_right]
theorem FT.pw_ne (a n:Nat) (ha:a<p ^ e) (h1:a≠0):pw p e m a n≠0:=by
  obtain⟨i,_,rfl⟩:=F.log a ha h1
  rw [←F.pw_mul g F.exs.2.2.2]
  exact F.pw_g_ne _
theorem FT.mul_inv (a:Nat) (ha:a<p ^ e) (h0:a≠0):mulF p e m a (pw p e m a (p ^ e-2))=1:=by
  have h:=F.pw_q a ha h0
  have:=F.q2
  rw [show p ^ e-1=(p ^ e-2)+1 by omega,pw] at h
  exact h
end
end Go.Sim.Pf
