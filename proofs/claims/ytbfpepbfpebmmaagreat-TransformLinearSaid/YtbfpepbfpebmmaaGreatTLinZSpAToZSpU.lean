/- Part of the proof: ZSpA, ZSpB, ZSpC, ZSpD, ZSpP, ZSpE, ZSpM, ZSpQ, ZSpR, ZSpU. -/
import Derived.Test.YtbfpepbfpebmmaaGreatTLinShSToXfS
import Derived.Test.YtbfpepbfpebmmaaGreatTLinLinA
import Derived.Test.YtbfpepbfpebmmaaGreatTLinZSpG1
import Derived.Test.YtbfpepbfpebmmaaGreatTLinSimX3ToShD
import Derived.Test.YtbfpepbfpebmmaaGreatTLinZShMixToZPfFieldI
import Derived.KernelRfl
set_option linter.all false
namespace Go.Sim
open Go Go.Proofs
structure FOK (α:Type) [Fl α] (cd:α→Nat) (p e b c q:Nat) (blk:AB):Prop where
  inj:∀ x y,cd x=cd y→x=y
  lt:∀ x,cd x<q
  sur:∀ n,n<q→∃ x,cd x=n
  zero:cd Fl.zero=0
  one:cd Fl.one=1
  q64:q≤64
  q2:2≤q
  mul:∀ (H:AH) x y,H[b]? = some blk→FN Tryz.prog 131 [fldv p e b e c,nv (cd x),nv (cd y)] H (fun v H'=>v=nv (cd (Fl.mul x y))∧H'=H)
  add:∀ (H:AH) x y,H[b]? = some blk→FN Tryz.prog 150 [fldv p e b e c,nv (cd x),nv (cd y)] H (fun v H'=>v=nv (cd (Fl.add x y))∧H'=H)
  sub:∀ (H:AH) x y,H[b]? = some blk→FN Tryz.prog 115 [fldv p e b e c,nv (cd x),nv (cd y)] H (fun v H'=>v=nv (cd (Fl.add x (Fl.neg y)))∧H'=H)
  neg:∀ (H:AH) x,H[b]? = some blk→FN Tryz.prog 96 [fldv p e b e c,nv (cd x)] H (fun v H'=>v=nv (cd (Fl.neg x))∧H'=H)
  inv:∀ (H:AH) x,H[b]? = some blk→x≠Fl.zero→FN Tryz.prog 142 [fldv p e b e c,nv (cd x)] H (fun v H'=>v=.tuple [nv (cd (Fl.inv x)),nv 0].toArray∧H'=H)
  size:∀ (H:AH),H[b]? = some blk→FN Tryz.prog 210 [fldv p e b e c] H (fun v H'=>v=nv q∧H'=H)
  rmul:∀ (H:AH) x y,H[b]? = some blk→FN Tryz.prog 132 [fldv p e b e c,nv (cd x),nv (cd y)] H (fun v H'=>v=nv (cd (Fl.mul x y))∧H'=H)
  radd:∀ (H:AH) x y,H[b]? = some blk→FN Tryz.prog 167 [fldv p e b e c,nv (cd x),nv (cd y)] H (fun v H'=>v=nv (cd (Fl.add x y))∧H'=H)
  rneg:∀ (H:AH) x,H[b]? = some blk→FN Tryz.prog 81 [fldv p e b e c,nv (cd x)] H (fun v H'=>v=nv (cd (Fl.neg x))∧H'=H)
  rinv:∀ (H:AH) x,H[b]? = some blk→x≠Fl.zero→FN Tryz.prog 107 [fldv p e b e c,nv (cd x)] H (fun v H'=>v=.tuple [nv (cd (Fl.inv x)),nv 0].toArray∧H'=H)
  rsize:∀ (H:AH),H[b]? = some blk→FN Tryz.prog 166 [fldv p e b e c] H (fun v H'=>v=nv q∧H'=H)
section
variable {α:Type} [Fl α] {cd:α→Nat} {p e b c q:Nat} {blk:AB} {H:AH}
abbrev evs (cd:α→Nat) (xs:List α):List Value:=xs.map fun x=>nv (cd x)
abbrev fbx (p e b c:Nat):AB:=.cells [nv p,nv e,.slice (some ⟨b,0,none⟩) e c] 76 none false
def qcg (xs:List α) (a:α) (ys:List α):List α:=List.zipWith (fun x y=>Fl.add x (Fl.mul a y)) xs ys
def lpiv [DecidableEq α] (xs:List α):Nat:=match xs with
  | []=>0
  | x :: l=>if x=Fl.zero then lpiv l+1 else 0
theorem lpiv_le [DecidableEq α]:∀ (xs:List α),lpiv xs≤xs.length
  | []=>Nat.le_refl _
  | x :: l=>by
    unfold lpiv
    have:=lpiv_le l
    split<;>simp<;>omega
theorem qct [DecidableEq α]:∀ (xs:List α) (k:Nat),k<lpiv xs→xs.getD k Fl.zero=Fl.zero
  | [],_,_=>by simp
  | x :: l,k,h=>by
    unfold lpiv at h
    split at h
    · rename_i hx
      cases k with
      | zero=>simpa using hx
      | succ k=>simpa using qct l k (by omega)
    · omega
theorem qq8 [DecidableEq α]:∀ (xs:List α),lpiv xs<xs.length→xs.getD (lpiv xs) Fl.zero≠Fl.zero
  | [],h=>by simp [lpiv] at h
  | x :: l,h=>by
    unfold lpiv at h ⊢
    split
    · rename_i hx
      rw [if_pos hx] at h
      simpa using qq8 l (by simpa using h)
    · simpa
theorem FOK.eq0 (F:FOK α cd p e b c q blk) (x:α):cd x=0↔x=Fl.zero:=⟨fun h=>F.inj _ _ (by rw [h,F.zero]),fun h=>by rw [h,F.zero]⟩
end
end Go.Sim

namespace Go.Sim
open Go Go.Proofs
section
variable {α:Type} [Fl α] {cd:α→Nat} {p e b c q:Nat} {blk:AB} {H:AH}
abbrev evr (cd:α→Nat) (xss:List (List α)):List (List Value):=xss.map (evs cd)
theorem qdg {β γ:Type} (f:β→γ) (xs:List β) (k:Nat) (d:β):(xs.map f).getD k (f d)=f (xs.getD k d):=by
  simp only [List.getD_eq_getElem?_getD,List.getElem?_map]
  cases xs[k]?<;>rfl
theorem RowR.open {v:Value} {xss:List (List α)} (h:RowR H v (evr cd xss)):∃ vs,Row H v vs∧vs.length=xss.length∧∀ k,k<xss.length→Row H (vs.getD k undef) (evs cd (xss.getD k [])):=by
  obtain⟨vs,h1,h2,h3⟩:=h
  refine⟨vs,h1.1,by simpa using h2,fun k hk=>?_⟩
  have:=h3 k (by simpa using hk)
  rwa [show ([]:List Value)=evs cd ([]:List α) from rfl,qdg] at this
theorem qhj (xs:List α):(evs cd xs).all qk9=true:=by simp [evs,qk9]
def ldotk (xs ys:List α):Nat→α
  | 0=>Fl.zero
  | k+1=>Fl.add (ldotk xs ys k) (Fl.mul (xs.getD k Fl.zero) (ys.getD k Fl.zero))
def qfz (n:Nat) (xss:List (List α)) (cs:List α):Nat→List α
  | 0=>List.replicate n Fl.zero
  | k+1=>qcg (qfz n xss cs k) (cs.getD k Fl.zero) (xss.getD k [])
def lcomb (n:Nat) (xss:List (List α)) (cs:List α):List α:=qfz n xss cs xss.length
theorem qdk {xs ys:List α} {a:α} (h:xs.length≤ys.length):(qcg xs a ys).length=xs.length:=by simp [qcg];omega
theorem qd8 {n:Nat} {xss:List (List α)} {cs:List α} (hl:∀ x∈xss,x.length=n):∀ k,k≤xss.length→(qfz n xss cs k).length=n
  | 0,_=>by simp [qfz]
  | k + 1,hk=>by
    have h1:=qd8 (cs:=cs) hl k (by omega)
    have h2:(xss.getD k []).length=n:=by
      rw [List.getD_eq_getElem?_getD,List.getElem?_eq_getElem (by omega)];exact hl _ (List.getElem_mem _)
    rw [qfz,qdk (by omega),h1]
theorem qcd {n:Nat} {xss:List (List α)} (hl:∀ x∈xss,x.length=n) {k:Nat} (hk:k<xss.length):(xss.getD k []).length=n:=by
  rw [List.getD_eq_getElem?_getD,List.getElem?_eq_getElem hk];exact hl _ (List.getElem_mem hk)
def lunit (n j:Nat):List α:=(List.replicate n Fl.zero).set j Fl.one
end
end Go.Sim

namespace Go.Sim
open Go Go.Proofs
theorem qmv {β:Type} {xs ys:List β} {k:Nat} (d:β) (h1:k<xs.length) (h2:k<ys.length) (h:xs.take k=ys.take k) (he:xs.getD k d=ys.getD k d):xs.take (k+1)=ys.take (k+1):=by
  rw [List.take_succ_eq_append_getElem h1,List.take_succ_eq_append_getElem h2,h]
  simp only [List.getD_eq_getElem?_getD,List.getElem?_eq_getElem h1,List.getElem?_eq_getElem h2,Option.getD_some] at he
  rw [he]
theorem RowR.openN {H:AH} {v:Value} {xss:List (List Nat)} (h:RowR H v (xss.map fun l=>l.map nv)):∃ vs,Row H v vs∧vs.length=xss.length∧∀ k,k<xss.length→Row H (vs.getD k undef) ((xss.getD k []).map nv):=by
  obtain⟨vs,h1,h2,h3⟩:=h
  refine⟨vs,h1.1,by simpa using h2,fun k hk=>?_⟩
  have:=h3 k (by simpa using hk)
  rwa [show ([]:List Value)=([]:List Nat).map nv from rfl,qdg (fun l:List Nat=>l.map nv)] at this
section
variable {α:Type} [Fl α] [DecidableEq α] {cd:α→Nat} {p e b c q:Nat} {blk:AB} {H:AH}
def qrg (B:List (List α)) (v:List α):Nat→List α
  | 0=>v
  | k+1=>qcg (qrg B v k) (Fl.neg ((qrg B v k).getD (lpiv (B.getD k [])) Fl.zero)) (B.getD k [])
def lclr (B:List (List α)) (v:List α):List α:=qrg B v B.length
theorem qf0 {n:Nat} {B:List (List α)} {v:List α} (hl:∀ x∈B,x.length=n) (hv:v.length=n):∀ k,k≤B.length→(qrg B v k).length=n
  | 0,_=>hv
  | k+1,hk=>by
    have h1:=qf0 hl hv k (by omega)
    rw [qrg,qdk (by rw [h1,qcd hl hk];exact Nat.le_refl _),h1]
end
end Go.Sim

namespace Go.Sim
open Go Go.Proofs
section
variable {α:Type} [Fl α] [DecidableEq α] {cd:α→Nat} {p e b c q:Nat} {blk:AB} {H:AH}
def qc2 (pv:Nat) (w:List α) (st:List (List α)×Bool) (x:List α):List (List α)×Bool:=
  if st.2=false∧pv<lpiv x then (st.1++[w]++[qcg x (Fl.neg (x.getD pv Fl.zero)) w],true) else (st.1++[qcg x (Fl.neg (x.getD pv Fl.zero)) w],st.2)
def lputF (pv:Nat) (w:List α) (B:List (List α)):List (List α):=
  let st:=B.foldl (qc2 pv w) ([],false)
  if st.2 then st.1 else st.1++[w]
def qn3 (w:List α):List α:=qcg (List.replicate w.length Fl.zero) (Fl.inv (w.getD (lpiv w) Fl.zero)) w
def lput (B:List (List α)) (v:List α):List (List α):=
  let w:=lclr B v
  if lpiv w=w.length then B else lputF (lpiv w) (qn3 w) B
theorem qgz {n:Nat} {B:List (List α)} {v:List α} (hl:∀ x∈B,x.length=n) (hv:v.length=n):(lclr B v).length=n:=qf0 hl hv _ (Nat.le_refl _)
theorem lnorm_length (w:List α):(qn3 w).length=w.length:=by unfold qn3;rw [qdk (by simp)];simp
theorem qqr {pv:Nat} {w:List α}:∀ (l:List (List α)) (st:List (List α)×Bool),(l.foldl (qc2 pv w) st).1.length≤st.1.length+l.length+(if st.2 then 0 else 1)∧(st.2=true→(l.foldl (qc2 pv w) st).2=true)∧((l.foldl (qc2 pv w) st).2=false→(l.foldl (qc2 pv w) st).1.length=st.1.length+l.length)
  | [],st=>by simp
  | x :: l,st=>by
    have h:=qqr (pv:=pv) (w:=w) l (qc2 pv w st x)
    simp only [List.foldl_cons,List.length_cons]
    obtain⟨h1,h2,h3⟩:=h
    by_cases hc:st.2=false∧pv<lpiv x
    · have e:qc2 pv w st x=(st.1++[w]++[qcg x (Fl.neg (x.getD pv Fl.zero)) w],true):=if_pos hc
      rw [e] at h1 h2 h3 ⊢
      refine⟨Nat.le_trans h1 ?_,fun _=>h2 rfl,fun hs=>?_⟩
      · simp [hc.1];omega
      · rw [h2 rfl] at hs;cases hs
    · have e:qc2 pv w st x=(st.1++[qcg x (Fl.neg (x.getD pv Fl.zero)) w],st.2):=if_neg hc
      rw [e] at h1 h2 h3 ⊢
      refine⟨Nat.le_trans h1 ?_,fun hs=>h2 hs,fun hs=>?_⟩
      · simp;omega
      · rw [h3 hs];simp;omega
def qb4 (rows:List (List α)):List (List α):=rows.foldl lput []
def Piv (n:Nat) (B:List (List α)):Prop:=(∀ x∈B,x.length=n)∧∀ x∈B,lpiv x<n
theorem getD_mem {β:Type} {l:List β} {k:Nat} {d:β} (hk:k<l.length):l.getD k d∈l:=by
  rw [List.getD_eq_getElem?_getD,List.getElem?_eq_getElem hk];exact List.getElem_mem hk
end
end Go.Sim

namespace Go.Sim
section
variable {α:Type} [Fl α] [DecidableEq α]
open Fl
def toV (xs:List α):Vc α:=fun j=>xs.getD j zero
def rowV (L:List (List α)):Nat→Vc α:=fun i=>toV (L.getD i [])
def LSpan (L:List (List α)) (u:Vc α):Prop:=Span L.length (rowV L) u
theorem qf3 {xs:List α} {j:Nat} (h:xs.length≤j):toV xs j=zero:=by
  simp [toV,List.getD_eq_getElem?_getD,List.getElem?_eq_none h]
theorem qqb {xs ys:List α} (hl:xs.length=ys.length) (h:toV xs=toV ys):xs=ys:=by
  refine List.ext_getElem hl fun j h1 h2=>?_
  have:=congrFun h j
  simpa [toV,List.getD_eq_getElem?_getD,List.getElem?_eq_getElem h1,List.getElem?_eq_getElem h2] using this
theorem qfj {xs ys:List α} {a:α} (h:xs.length=ys.length):toV (qcg xs a ys)=va (toV xs) (vs a (toV ys)):=by
  funext j
  by_cases hj:j<xs.length
  · have hj2:j<ys.length:=by omega
    simp [toV,qcg,va,vs,List.getD_eq_getElem?_getD,List.getElem?_zipWith,List.getElem?_eq_getElem hj,List.getElem?_eq_getElem hj2]
  · show toV _ j=add (toV xs j) (mul a (toV ys j))
    rw [qf3 (by rw [qdk (by omega)];omega),qf3 (by omega),qf3 (by omega),Fl.mul_zero,add_zero]
theorem toV_zero (n:Nat):toV (List.replicate n (zero:α))=vz:=by
  funext j
  simp only [toV,vz,List.getD_eq_getElem?_getD,List.getElem?_replicate]
  split<;>rfl
theorem LSpan.mem {L:List (List α)} {x:List α} (h:x∈L):LSpan L (toV x):=by
  obtain⟨i,hi,rfl⟩:=List.mem_iff_getElem.1 h
  have:=Span.row (R:=rowV L) hi
  simpa [LSpan,rowV,List.getD_eq_getElem?_getD,List.getElem?_eq_getElem hi] using this
theorem LSpan.sub {L:List (List α)} {S:Vc α→Prop} (h0:S vz) (ha:∀ u v,S u→S v→S (va u v)) (hs:∀ c u,S u→S (vs c u)) (h:∀ x∈L,S (toV x)) {u:Vc α} (hu:LSpan L u):S u:=by
  induction hu with
  | zero=>exact h0
  | @step v i c _ hi ih =>
    refine ha _ _ ih (hs _ _ ?_)
    exact h _ (by simpa using getD_mem (d:=[]) hi)
theorem LSpan.mono {L L':List (List α)} (h:∀ x∈L,LSpan L' (toV x)) {u:Vc α} (hu:LSpan L u):LSpan L' u:=
  hu.sub .zero (fun _ _=>Span.add) (fun c _=>Span.smul c) h
theorem vneg (u:Vc α):va u (vs (neg Fl.one) u)=vz:=by
  funext j
  show add (u j) (mul (neg Fl.one) (u j))=zero
  have h:mul (u j) (add Fl.one (neg Fl.one))=zero:=by rw [add_neg,Fl.mul_zero]
  rw [mul_add,mul_one,mul_comm (u j) (neg Fl.one)] at h
  exact h
structure LRed (n:Nat) (L:List (List α)):Prop where
  row:∀ x∈L,x.length=n∧lpiv x<n∧x.getD (lpiv x) zero=Fl.one
  pw:L.Pairwise fun x y=>lpiv x<lpiv y∧x.getD (lpiv y) zero=zero∧y.getD (lpiv x) zero=zero
theorem LRed.nil (n:Nat):LRed n ([]:List (List α)):=⟨by simp,.nil⟩
theorem LRed.piv {n:Nat} {L:List (List α)} (h:LRed n L):Piv n L:=⟨fun x hx=>(h.row x hx).1,fun x hx=>(h.row x hx).2.1⟩
theorem qd4 {L:List (List α)} {i:Nat} (hi:i<L.length):rowV L i=toV L[i]:=by simp [rowV,List.getD_eq_getElem?_getD,List.getElem?_eq_getElem hi]
theorem qcj {L:List (List α)} {i:Nat} (hi:i<L.length):L.getD i []=L[i]:=by simp [List.getD_eq_getElem?_getD,List.getElem?_eq_getElem hi]
theorem LRed.red {n:Nat} {L:List (List α)} (h:LRed n L):Red L.length (rowV L) (fun i=>lpiv (L.getD i [])):=by
  have pw:=List.pairwise_iff_getElem.1 h.pw
  refine⟨fun i j hij hj=>?_,fun i hi=>?_,fun i k hi hk hne=>?_,fun i j hi hj=>?_⟩
  · simp only [qcj hj,qcj (show i<L.length by omega)]
    exact (pw i j (by omega) hj hij).1
  · simp only [qcj hi,qd4 hi]
    exact (h.row _ (List.getElem_mem hi)).2.2
  · simp only [qcj hi,qd4 hk]
    rcases Nat.lt_or_gt_of_ne hne with hlt|hgt
    · exact (pw i k hi hk hlt).2.2
    · exact (pw k i hk hi hgt).2.1
  · simp only [qcj hi] at hj
    rw [qd4 hi]
    exact qct _ _ hj
theorem LRed.unique {n:Nat} {L L':List (List α)} (h:LRed n L) (h':LRed n L') (hs:∀ u,LSpan L u↔LSpan L' u):L=L':=by
  obtain⟨h1,_,h3⟩:=h.red.unique h'.red (fun i hi=>(hs _).1 (by rw [qd4 hi];exact LSpan.mem (List.getElem_mem hi))) (fun i hi=>(hs _).2 (by rw [qd4 hi];exact LSpan.mem (List.getElem_mem hi)))
  refine List.ext_getElem h1 fun i hi hi'=>?_
  have:=h3 i hi
  rw [qd4 hi,qd4 hi'] at this
  exact qqb (by rw [(h.row _ (List.getElem_mem hi)).1,(h'.row _ (List.getElem_mem hi')).1]) this
theorem qmh {n:Nat} {B:List (List α)} {v:List α} (hl:∀ x∈B,x.length=n) (hv:v.length=n):∀ k,k≤B.length→∃ s,LSpan B s∧toV (qrg B v k)=va (toV v) s
  | 0,_=>⟨vz,.zero,by rw [qrg,qfh]⟩
  | k+1,hk=>by
    obtain⟨s,h1,h2⟩:=qmh hl hv k (by omega)
    have hlen:=qf0 hl hv k (by omega)
    have hk':k<B.length:=by omega
    rw [qrg,qfj (by rw [hlen,qcd hl hk']),h2,qhx]
    refine⟨_,Span.add h1 (Span.smul _ ?_),rfl⟩
    have:=Span.row (R:=rowV B) hk'
    exact this
theorem qmg {n:Nat} {B:List (List α)} {v:List α} (hB:LRed n B) (hv:v.length=n):∀ k,k≤B.length→∀ i,i<k→toV (qrg B v k) (lpiv (B.getD i []))=zero
  | 0,_,i,hi=>by omega
  | k + 1,hk,i,hi=>by
    have hl:=hB.piv.1
    have hlen:=qf0 hl hv k (by omega)
    have hk':k<B.length:=by omega
    have R:=hB.red
    rw [qrg,qfj (by rw [hlen,qcd hl hk'])]
    show add (toV (qrg B v k) _) (mul _ (rowV B k (lpiv (B.getD i []))))=zero
    by_cases hik:i=k
    · subst hik
      rw [R.one i hk',mul_one]
      exact add_neg _
    · rw [R.alone i k (by omega) hk' hik,Fl.mul_zero,add_zero]
      exact qmg hB hv k (by omega) i (by omega)
def lins (p:Nat) (w:List α):List (List α)→List (List α)
  | []=>[w]
  | x :: l=>if p<lpiv x then w :: (x :: l).map (fun x=>qcg x (neg (x.getD p zero)) w) else qcg x (neg (x.getD p zero)) w :: lins p w l
theorem qm1 {p:Nat} {w:List α}:∀ (l:List (List α)) (a:List (List α)),l.foldl (qc2 p w) (a,true)=(a++l.map (fun x=>qcg x (neg (x.getD p zero)) w),true)
  | [],a=>by simp
  | x :: l,a=>by
    rw [List.foldl_cons,show qc2 p w (a,true) x=(a++[qcg x (neg (x.getD p zero)) w],true) from if_neg fun h=>by simp at h,qm1 l]
    simp
theorem putF_acc {p:Nat} {w:List α}:∀ (l:List (List α)) (a:List (List α)),(let st:=l.foldl (qc2 p w) (a,false);if st.2 then st.1 else st.1++[w])=a++lins p w l
  | [],a=>by simp [lins]
  | x :: l,a=>by
    rw [List.foldl_cons]
    by_cases h:p<lpiv x
    · rw [show qc2 p w (a,false) x=(a++[w]++[qcg x (neg (x.getD p zero)) w],true) from if_pos ⟨rfl,h⟩,qm1 l]
      simp [lins,h]
    · rw [show qc2 p w (a,false) x=(a++[qcg x (neg (x.getD p zero)) w],false) from if_neg fun hh=>h hh.2,putF_acc l]
      simp [lins,h]
theorem lputF_lins {p:Nat} {w:List α} (B:List (List α)):lputF p w B=lins p w B:=by
  have:=putF_acc (p:=p) (w:=w) B []
  simpa [lputF] using this
theorem lpiv_eq {xs:List α} {k:Nat} (hk:k<xs.length) (h0:∀ j,j<k→xs.getD j zero=zero) (h1:xs.getD k zero≠zero):lpiv xs=k:=by
  rcases Nat.lt_trichotomy (lpiv xs) k with h|h|h
  · exact absurd (h0 _ h) (qq8 xs (by omega))
  · exact h
  · exact absurd (qct xs k h) h1
theorem qpn {p:Nat} {w:List α}:∀ {l:List (List α)} {y:List α},y∈lins p w l→y=w∨∃ x∈l,y=qcg x (neg (x.getD p zero)) w
  | [],y,h=>by simp [lins] at h;exact .inl h
  | x :: l,y,h=>by
    unfold lins at h
    split at h
    · rcases List.mem_cons.1 h with h|h
      · exact .inl h
      · obtain⟨z,hz,rfl⟩:=List.mem_map.1 h
        exact .inr ⟨z,hz,rfl⟩
    · rcases List.mem_cons.1 h with h|h
      · exact .inr ⟨x,by simp,h⟩
      · rcases qpn h with h|⟨z,hz,h⟩
        · exact .inl h
        · exact .inr ⟨z,by simp [hz],h⟩
theorem lins_has {p:Nat} {w:List α}:∀ (l:List (List α)),w∈lins p w l∧∀ x∈l,qcg x (neg (x.getD p zero)) w∈lins p w l
  | []=>by simp [lins]
  | x :: l=>by
    unfold lins
    split
    · exact⟨by simp,fun z hz=>List.mem_cons_of_mem _ (List.mem_map.2 ⟨z,hz,rfl⟩)⟩
    · obtain⟨h1,h2⟩:=lins_has (p:=p) (w:=w) l
      refine⟨by simp [h1],fun z hz=>?_⟩
      rcases List.mem_cons.1 hz with rfl|hz
      · simp
      · exact List.mem_cons_of_mem _ (h2 z hz)
structure NewRow (n:Nat) (B:List (List α)) (w:List α):Prop where
  len:w.length=n
  lt:lpiv w<n
  one:w.getD (lpiv w) zero=Fl.one
  at_:∀ x∈B,w.getD (lpiv x) zero=zero
section
variable {n:Nat} {B:List (List α)} {w:List α}
theorem more_at (h:NewRow n B w) {x:List α} (hx:x.length=n) (j:Nat):(qcg x (neg (x.getD (lpiv w) zero)) w).getD j zero=add (x.getD j zero) (mul (neg (x.getD (lpiv w) zero)) (w.getD j zero)):=
  congrFun (qfj (a:=neg (x.getD (lpiv w) zero)) (show x.length=w.length by rw [hx,h.len])) j
theorem qm3 (h:Fl.one=(zero:α)):False:=one_ne h
theorem qkg (hB:LRed n B) (h:NewRow n B w) {x:List α} (hx:x∈B):lpiv (qcg x (neg (x.getD (lpiv w) zero)) w)=lpiv x∧(qcg x (neg (x.getD (lpiv w) zero)) w).getD (lpiv x) zero=Fl.one:=by
  obtain⟨h1,h2,h3⟩:=hB.row x hx
  have e:(qcg x (neg (x.getD (lpiv w) zero)) w).getD (lpiv x) zero=Fl.one:=by
    rw [more_at h h1,h.at_ x hx,Fl.mul_zero,add_zero,h3]
  refine⟨lpiv_eq (by rw [qdk (by rw [h1,h.len];exact Nat.le_refl _),h1];exact h2) (fun j hj=>?_) (by rw [e];exact one_ne),e⟩
  rw [more_at h h1,qct x j hj]
  have hne:lpiv x≠lpiv w:=fun he=>qm3 (by rw [←h.one,←he];exact h.at_ x hx)
  rcases Nat.lt_or_gt_of_ne hne with hlt|hgt
  · rw [qct w j (by omega),Fl.mul_zero,add_zero]
  · rw [qct x (lpiv w) hgt]
    have:neg (zero:α)=zero:=by have:=add_neg (zero:α);rwa [Fl.zero_add] at this
    rw [this,Fl.zero_mul,add_zero]
theorem more_w (h:NewRow n B w) {x:List α} (hx:x.length=n):(qcg x (neg (x.getD (lpiv w) zero)) w).getD (lpiv w) zero=zero:=by
  rw [more_at h hx,h.one,mul_one,add_neg]
theorem more_other (h:NewRow n B w) {x y:List α} (hx:x.length=n) (hy:y∈B):(qcg x (neg (x.getD (lpiv w) zero)) w).getD (lpiv y) zero=x.getD (lpiv y) zero:=by
  rw [more_at h hx,h.at_ y hy,Fl.mul_zero,add_zero]
theorem lins_red (hB:LRed n B) (h:NewRow n B w):LRed n (lins (lpiv w) w B):=by
  refine⟨fun y hy=>?_,?_⟩
  · rcases qpn hy with rfl|⟨x,hx,rfl⟩
    · exact⟨h.len,h.lt,h.one⟩
    · obtain⟨h1,h2,h3⟩:=hB.row x hx
      obtain⟨p1,p2⟩:=qkg hB h hx
      exact⟨by rw [qdk (by rw [h1,h.len];exact Nat.le_refl _),h1],by rw [p1];exact h2,by rw [p1];exact p2⟩
  · have pairf:∀ x∈B,∀ y∈B,(lpiv x<lpiv y∧x.getD (lpiv y) zero=zero∧y.getD (lpiv x) zero=zero)→(lpiv (qcg x (neg (x.getD (lpiv w) zero)) w)<lpiv (qcg y (neg (y.getD (lpiv w) zero)) w)∧(qcg x (neg (x.getD (lpiv w) zero)) w).getD (lpiv (qcg y (neg (y.getD (lpiv w) zero)) w)) zero=zero∧(qcg y (neg (y.getD (lpiv w) zero)) w).getD (lpiv (qcg x (neg (x.getD (lpiv w) zero)) w)) zero=zero):=by
      intro x hx y hy ⟨q1,q2,q3⟩
      rw [(qkg hB h hx).1,(qkg hB h hy).1]
      exact⟨q1,by rw [more_other h (hB.row x hx).1 hy];exact q2,by rw [more_other h (hB.row y hy).1 hx];exact q3⟩
    have wf:∀ x∈B,lpiv w<lpiv x→(lpiv w<lpiv (qcg x (neg (x.getD (lpiv w) zero)) w)∧w.getD (lpiv (qcg x (neg (x.getD (lpiv w) zero)) w)) zero=zero∧(qcg x (neg (x.getD (lpiv w) zero)) w).getD (lpiv w) zero=zero):=by
      intro x hx hlt
      rw [(qkg hB h hx).1]
      exact⟨hlt,h.at_ x hx,more_w h (hB.row x hx).1⟩
    have fw:∀ x∈B,¬lpiv w<lpiv x→(lpiv (qcg x (neg (x.getD (lpiv w) zero)) w)<lpiv w∧(qcg x (neg (x.getD (lpiv w) zero)) w).getD (lpiv w) zero=zero∧w.getD (lpiv (qcg x (neg (x.getD (lpiv w) zero)) w)) zero=zero):=by
      intro x hx hlt
      rw [(qkg hB h hx).1]
      have hne:lpiv x≠lpiv w:=fun he=>qm3 (by rw [←h.one,←he];exact h.at_ x hx)
      exact⟨by omega,more_w h (hB.row x hx).1,h.at_ x hx⟩
    have key:∀ l:List (List α),(∀ x∈l,x∈B)→l.Pairwise (fun x y=>lpiv x<lpiv y∧x.getD (lpiv y) zero=zero∧y.getD (lpiv x) zero=zero) →
        (lins (lpiv w) w l).Pairwise fun x y=>lpiv x<lpiv y∧x.getD (lpiv y) zero=zero∧y.getD (lpiv x) zero=zero:=by
      intro l
      induction l with
      | nil=>intro _ _;exact List.pairwise_singleton _ _
      | cons x l ih =>
        intro hm hp
        have hp':=List.pairwise_cons.1 hp
        unfold lins
        split
        · rename_i hlt
          refine List.pairwise_cons.2 ⟨fun y hy=>?_,?_⟩
          · obtain⟨z,hz,rfl⟩:=List.mem_map.1 hy
            refine wf z (hm z hz) ?_
            rcases List.mem_cons.1 hz with rfl|hz
            · exact hlt
            · have:=(hp'.1 z hz).1;omega
          · refine List.pairwise_map.2 (hp.imp_of_mem fun {a b} ha hb hab=>pairf a (hm a ha) b (hm b hb) hab)
        · rename_i hlt
          refine List.pairwise_cons.2 ⟨fun y hy=>?_,ih (fun z hz=>hm z (by simp [hz])) hp'.2⟩
          rcases qpn hy with rfl|⟨z,hz,rfl⟩
          · exact fw x (hm x (by simp)) hlt
          · exact pairf x (hm x (by simp)) z (hm z (by simp [hz])) (hp'.1 z hz)
    exact key B (fun _ h=>h) hB.pw
theorem lins_span (hB:LRed n B) (h:NewRow n B w) (u:Vc α):LSpan (lins (lpiv w) w B) u↔LSpan (w :: B) u:=by
  constructor
  · refine LSpan.mono fun y hy=>?_
    rcases qpn hy with rfl|⟨x,hx,rfl⟩
    · exact LSpan.mem (by simp)
    · rw [qfj (by rw [(hB.row x hx).1,h.len])]
      exact Span.add (LSpan.mem (by simp [hx])) (Span.smul _ (LSpan.mem (by simp)))
  · refine LSpan.mono fun y hy=>?_
    obtain⟨q1,q2⟩:=lins_has (p:=lpiv w) (w:=w) B
    rcases List.mem_cons.1 hy with rfl|hx
    · exact LSpan.mem q1
    · have h1:=LSpan.mem (q2 y hx)
      rw [qfj (by rw [(hB.row y hx).1,h.len])] at h1
      have h2:LSpan (lins (lpiv w) w B) (va (va (toV y) (vs (neg (y.getD (lpiv w) zero)) (toV w))) (vs (neg Fl.one) (vs (neg (y.getD (lpiv w) zero)) (toV w)))):=Span.add h1 (Span.smul _ (Span.smul _ (LSpan.mem q1)))
      rw [qhx,vneg,qfh] at h2
      exact h2
end
theorem lput_ok {n:Nat} {B:List (List α)} {v:List α} (hB:LRed n B) (hv:v.length=n):LRed n (lput B v)∧∀ u,LSpan (lput B v) u↔LSpan (v :: B) u:=by
  have hl:=hB.piv.1
  have hwl:=qgz hl hv
  obtain⟨s,hs1,hs2⟩:=qmh hl hv B.length (Nat.le_refl _)
  have hz:=qmg hB hv B.length (Nat.le_refl _)
  change toV (lclr B v)=_ at hs2
  change ∀ i,i<B.length→toV (lclr B v) _=zero at hz
  have hsv:LSpan B (vs (neg Fl.one) s):=Span.smul _ hs1
  have hback:toV v=va (toV (lclr B v)) (vs (neg Fl.one) s):=by
    rw [hs2,qhx,vneg,qfh]
  have inB:∀ {u},LSpan B u→LSpan (v :: B) u:=fun hu=>hu.mono fun x hx=>LSpan.mem (by simp [hx])
  unfold lput
  simp only
  by_cases h0:lpiv (lclr B v)=(lclr B v).length
  · rw [if_pos h0]
    refine⟨hB,fun u=>⟨inB,fun hu=>hu.mono fun y hy=>?_⟩⟩
    rcases List.mem_cons.1 hy with rfl|hx
    · have hw0:toV (lclr B y)=vz:=by
        funext j
        by_cases hj:j<(lclr B y).length
        · exact qct _ _ (by omega)
        · exact qf3 (by omega)
      rw [hback,hw0,qpt]
      exact hsv
    · exact LSpan.mem hx
  · rw [if_neg h0,lputF_lins]
    have hlt:lpiv (lclr B v)<(lclr B v).length:=by have:=lpiv_le (lclr B v);omega
    have hne:=qq8 _ hlt
    generalize hW:lclr B v=W at *
    have hN:toV (qn3 W)=vs (inv (W.getD (lpiv W) zero)) (toV W):=by
      unfold qn3
      rw [qfj (by simp),toV_zero,qpt]
    have hNl:=lnorm_length W
    have hat:∀ j,(qn3 W).getD j zero=mul (inv (W.getD (lpiv W) zero)) (W.getD j zero):=fun j=>congrFun hN j
    have hone:(qn3 W).getD (lpiv W) zero=Fl.one:=by rw [hat,mul_comm,mul_inv _ hne]
    have hpv:lpiv (qn3 W)=lpiv W:=lpiv_eq (by omega) (fun j hj=>by rw [hat,qct W j hj,Fl.mul_zero]) (by rw [hone];exact one_ne)
    have hnew:NewRow n B (qn3 W):=by
      refine⟨by omega,by omega,by rw [hpv];exact hone,fun x hx=>?_⟩
      obtain⟨i,hi,rfl⟩:=List.mem_iff_getElem.1 hx
      have:=hz i hi
      rw [qcj hi] at this
      rw [hat,show W.getD (lpiv B[i]) zero=zero from this,Fl.mul_zero]
    rw [←hpv]
    refine⟨lins_red hB hnew,fun u=>(lins_span hB hnew u).trans ⟨fun hu=>hu.mono fun y hy=>?_,fun hu=>hu.mono fun y hy=>?_⟩⟩
    · rcases List.mem_cons.1 hy with rfl|hx
      · rw [hN,hs2]
        exact Span.smul _ (Span.add (LSpan.mem (by simp)) (inB hs1))
      · exact LSpan.mem (by simp [hx])
    · rcases List.mem_cons.1 hy with rfl|hx
      · rw [hback]
        refine Span.add ?_ (hsv.mono fun x hx=>LSpan.mem (by simp [hx]))
        have h1:LSpan (qn3 W :: B) (vs (W.getD (lpiv W) zero) (toV (qn3 W))):=Span.smul _ (LSpan.mem (by simp))
        rw [hN,vs_vs,mul_inv _ hne,vs_one] at h1
        exact h1
      · exact LSpan.mem (by simp [hx])
theorem lput_len (B:List (List α)) (v:List α):(lput B v).length≤B.length+1:=by
  unfold lput
  simp only
  split
  · omega
  · unfold lputF
    have h:=qqr (pv:=lpiv (lclr B v)) (w:=qn3 (lclr B v)) B ([],false)
    simp only
    split
    · have:=h.1;simp at this;exact this
    · rename_i hs
      have:=h.2.2 (by simpa using hs)
      simp at this;simp [this]
theorem lreduce_ok {n:Nat}:∀ (rows B:List (List α)),LRed n B→(∀ x∈rows,x.length=n)→LRed n (rows.foldl lput B)∧(∀ u,LSpan (rows.foldl lput B) u↔LSpan (B++rows) u)∧(rows.foldl lput B).length≤B.length+rows.length
  | [],B,hB,_=>by simp [hB]
  | v :: rows,B,hB,hl=>by
    obtain⟨h1,h2⟩:=lput_ok hB (hl v (by simp))
    obtain⟨q1,q2,q3⟩:=lreduce_ok rows (lput B v) h1 (fun x hx=>hl x (by simp [hx]))
    refine⟨q1,fun u=>(q2 u).trans ⟨fun hu=>hu.mono fun x hx=>?_,fun hu=>hu.mono fun x hx=>?_⟩,?_⟩
    · rcases List.mem_append.1 hx with hx|hx
      · refine LSpan.mono (fun y hy=>?_) ((h2 _).1 (LSpan.mem hx))
        rcases List.mem_cons.1 hy with rfl|hy
        · exact LSpan.mem (by simp)
        · exact LSpan.mem (by simp [hy])
      · exact LSpan.mem (by simp [hx])
    · have key:∀ y,LSpan (lput B v) (toV y)→LSpan (lput B v++rows) (toV y):=fun y hy=>hy.mono fun z hz=>LSpan.mem (by simp [hz])
      rcases List.mem_append.1 hx with hx|hx
      · exact key x ((h2 _).2 (LSpan.mem (by simp [hx])))
      · rcases List.mem_cons.1 hx with rfl|hx
        · exact key x ((h2 _).2 (LSpan.mem (by simp)))
        · exact LSpan.mem (by simp [hx])
    · have:=lput_len B v
      simp only [List.foldl_cons,List.length_cons]
      omega
theorem qcb {n:Nat} {rows:List (List α)} (hl:∀ x∈rows,x.length=n):LRed n (qb4 rows)∧(∀ u,LSpan (qb4 rows) u↔LSpan rows u)∧(qb4 rows).length≤rows.length:=by
  have:=lreduce_ok rows [] (LRed.nil n) hl
  simpa [qb4] using this
end
end Go.Sim

namespace Go.Sim
open Go Go.Proofs
section
variable {α:Type} [Fl α] [DecidableEq α] {cd:α→Nat} {p e b c q:Nat} {blk:AB} {H:AH}
def lhas (rows:List (List α)) (v:List α):Bool:=decide (lpiv (lclr (qb4 rows) v)=v.length)
def laug (n:Nat) (rows:List (List α)):List (List α):=(List.range n).map fun j=>rows.map (fun r=>r.getD j Fl.zero)++lunit n j
def qfr (n:Nat) (rows:List (List α)):List (List α):=((qb4 (laug n rows)).filter fun l=>decide (rows.length≤lpiv l)).map fun l=>l.drop rows.length
theorem laug_len {n m:Nat} {rows:List (List α)} (hm:rows.length=m):∀ x∈laug n rows,x.length=m+n:=by
  intro x hx
  obtain⟨j,_,rfl⟩:=List.mem_map.1 hx
  simp [lunit,hm]
end
end Go.Sim

namespace Go.Sim
open Go Go.Proofs
section
variable {α:Type} [Fl α] [DecidableEq α] {cd:α→Nat} {p e b c q:Nat} {blk:AB} {H:AH}
abbrev rsl (n bl:Nat):Value:=.slice (some ⟨bl,0,none⟩) n n
theorem qgh {l:List Nat} (h:l.Nodup) {i j:Nat} (hi:i<l.length) (hj:j<l.length) (hne:i≠j):l.getD i 0≠l.getD j 0:=by
  simp only [List.getD_eq_getElem?_getD,List.getElem?_eq_getElem hi,List.getElem?_eq_getElem hj,Option.getD_some]
  intro he
  exact hne ((List.getElem_inj h).1 he)
theorem st_ev {bl k:Nat} {xs:List α} {x:α} {t:TypeId} {op:Option Nat} (h:H[bl]? = some (.cells (evs cd xs) t op false)) (hk:k<xs.length):xact (.st 1) H [.pointer (some ⟨bl,k,none⟩),nv (cd x)]=some (undef,H.set bl (.cells (evs cd (xs.set k x)) t op false)):=by
  unfold xact
  simp only [h]
  rw [if_pos ⟨rfl,rfl,by simp;omega⟩]
  simp [putL,evs,List.map_set,qbn]
theorem ld_ev {bl k:Nat} {xs:List α} {t:TypeId} {op:Option Nat} {r:Bool} (h:H[bl]? = some (.cells (evs cd xs) t op r)) (hk:k<xs.length):qbh none H [.pointer (some ⟨bl,k,none⟩)]=some (nv (cd (xs.getD k Fl.zero))):=by
  rw [qfx h]
  simp [qdc,evs,List.getD_eq_getElem?_getD,List.getElem?_eq_getElem hk]
theorem ld_sp {bl k n:Nat} {bs:List Nat} {t:TypeId} {op:Option Nat} {r:Bool} (h:H[bl]? = some (.cells (bs.map (rsl n)) t op r)) (hk:k<bs.length):qbh none H [.pointer (some ⟨bl,k,none⟩)]=some (rsl n (bs.getD k 0)):=by
  rw [qfx h]
  simp [qdc,List.getD_eq_getElem?_getD,List.getElem?_eq_getElem hk]
theorem qk7 {β:Type} (d:β):∀ (xs zs:List β) (k:Nat),xs.length=zs.length→k<xs.length→(zs.take k++xs.drop k).set k (zs.getD k d)=zs.take (k+1)++xs.drop (k+1)
  | [],_,k,_,h=>by simp at h
  | _ :: _,[],_,h,_=>by simp at h
  | x :: l,z :: m,0,_,_=>by simp
  | x :: l,z :: m,k+1,h,hk=>by simpa using qk7 d l m k (by simpa using h) (by simpa using hk)
theorem qk8 {β:Type} (d:β):∀ (xs zs:List β) (k:Nat),xs.length=zs.length→(zs.take k++xs.drop k).getD k d=xs.getD k d
  | [],zs,k,h=>by
    have:zs=[]:=List.eq_nil_of_length_eq_zero h.symm
    subst this;simp
  | _ :: _,[],_,h=>by simp at h
  | x :: l,z :: m,0,_=>by simp
  | x :: l,z :: m,k+1,h=>by simpa using qk8 d l m k (by simpa using h)
def lsub (xs:List α) (a:α) (ys:List α):List α:=List.zipWith (fun x y=>Fl.add x (Fl.neg (Fl.mul a y))) xs ys
theorem lsub_get {xs ys:List α} {a:α} {k:Nat} (h1:k<xs.length) (h2:k<ys.length):(lsub xs a ys).getD k Fl.zero=Fl.add (xs.getD k Fl.zero) (Fl.neg (Fl.mul a (ys.getD k Fl.zero))):=by
  simp [lsub,List.getD_eq_getElem?_getD,List.getElem?_zipWith,List.getElem?_eq_getElem h1,List.getElem?_eq_getElem h2]
end
end Go.Sim

namespace Go.Sim
section
variable {α:Type} [Fl α] [DecidableEq α]
open Fl
def ent (M:List (List α)) (k j:Nat):α:=(M.getD k []).getD j zero
structure RedTo (n col:Nat) (M:List (List α)) (P:List Nat):Prop where
  len:P.length≤M.length
  width:∀ x∈M,x.length=n
  lt:∀ i,i<P.length→P.getD i 0<col
  inc:∀ i j,i<j→j<P.length→P.getD i 0<P.getD j 0
  one:∀ i,i<P.length→ent M i (P.getD i 0)=Fl.one
  alone:∀ i k,i<P.length→k<M.length→k≠i→ent M k (P.getD i 0)=zero
  lead:∀ i j,i<P.length→j<P.getD i 0→ent M i j=zero
  zero:∀ k j,P.length≤k→k<M.length→j<col→ent M k j=zero
theorem RedTo.start {n:Nat} {M:List (List α)} (h:∀ x∈M,x.length=n):RedTo n 0 M []:=
  ⟨by simp,h,by simp,by simp,by simp,by simp,by simp,fun _ _ _ _ h=>by omega⟩
theorem RedTo.skip {n col:Nat} {M:List (List α)} {P:List Nat} (h:RedTo n col M P) (h0:∀ k,P.length≤k→k<M.length→ent M k col=Fl.zero):RedTo n (col+1) M P:=
  ⟨h.len,h.width,fun i hi=>by have:=h.lt i hi;omega,h.inc,h.one,h.alone,h.lead,fun k j hk hm hj=>by
    by_cases hjc:j=col
    · subst hjc;exact h0 k hk hm
    · exact h.zero k j hk hm (by omega)⟩
theorem getD_set {β:Type} {l:List β} {i k:Nat} {x d:β} (hi:i<l.length):(l.set i x).getD k d=if k=i then x else l.getD k d:=by
  simp only [List.getD_eq_getElem?_getD]
  by_cases h:k=i
  · subst h;rw [if_pos rfl,List.getElem?_set_self hi];rfl
  · rw [if_neg h,List.getElem?_set_ne (Ne.symm h)]
theorem qd1 {β:Type} {l:List β} {x d:β} {k:Nat}:(l++[x]).getD k d=if k<l.length then l.getD k d else if k=l.length then x else d:=by
  simp only [List.getD_eq_getElem?_getD]
  by_cases h:k<l.length
  · rw [if_pos h,List.getElem?_append_left h]
  · rw [if_neg h,List.getElem?_append_right (by omega)]
    by_cases h2:k=l.length
    · subst h2;simp
    · rw [if_neg h2,List.getElem?_eq_none (by simp;omega)];rfl
def qhh (r col:Nat) (M:List (List α)):List (List α):=(List.range M.length).map fun k=>if k=r then M.getD r [] else lsub (M.getD k []) (ent M k col) (M.getD r [])
theorem qcc (r col:Nat) (M:List (List α)):(qhh r col M).length=M.length:=by simp [qhh]
theorem qff {r col:Nat} {M:List (List α)} {k:Nat} (hk:k<M.length):(qhh r col M).getD k []=if k=r then M.getD r [] else lsub (M.getD k []) (ent M k col) (M.getD r []):=by
  simp [qhh,List.getD_eq_getElem?_getD,List.getElem?_eq_getElem (show k<(List.range M.length).length by simpa using hk)]
def qc9 (r i col:Nat) (M:List (List α)):List (List α):=((M.set i (M.getD r [])).set r (M.getD i [])).set r ((M.getD i []).map (mul (inv (ent M i col))))
theorem qjq {xs ys:List α} {a:α} (h:xs.length=ys.length):(lsub xs a ys).length=xs.length:=by simp [lsub,h]
theorem toV_lsub {xs ys:List α} {a:α} (h:xs.length=ys.length):toV (lsub xs a ys)=va (toV xs) (vs (neg Fl.one) (vs a (toV ys))):=by
  funext j
  by_cases hj:j<xs.length
  · show (lsub xs a ys).getD j Fl.zero=add (toV xs j) (mul (neg Fl.one) (mul a (toV ys j)))
    rw [lsub_get hj (by omega)]
    have h1:=vneg (fun _:Nat=>mul a (toV ys j))
    have h2:=congrFun h1 0
    simp only [va,vs,vz] at h2
    have h3:=add_neg (mul a (toV ys j))
    have:=Fl.add_left_cancel (h3.trans h2.symm)
    rw [←this];rfl
  · rw [qf3 (by rw [qjq h];omega)]
    show zero=add (toV xs j) (mul (neg Fl.one) (mul a (toV ys j)))
    rw [qf3 (xs:=xs) (by omega),qf3 (xs:=ys) (by omega),Fl.mul_zero,Fl.mul_zero,add_zero]
theorem qp9 {xs:List α} {a:α}:toV (xs.map (mul a))=vs a (toV xs):=by
  funext j
  simp only [toV,vs,List.getD_eq_getElem?_getD,List.getElem?_map]
  cases xs[j]? with
  | none=>simp [Fl.mul_zero]
  | some x=>rfl
section
variable {n col r i:Nat} {M:List (List α)} {P:List Nat}
theorem qdr:(qc9 r i col M).length=M.length:=by simp [qc9]
theorem qjr (hr:r<M.length) (hi:i<M.length) {k:Nat}:(qc9 r i col M).getD k []=if k=r then (M.getD i []).map (mul (inv (ent M i col))) else if k=i then M.getD r [] else M.getD k []:=by
  unfold qc9
  rw [getD_set (by simpa using hr)]
  by_cases hk:k=r
  · rw [if_pos hk,if_pos hk]
  · rw [if_neg hk,if_neg hk,getD_set (by simpa using hr),if_neg hk,getD_set hi]
theorem qhg (h:∀ x∈M,x.length=n) (hr:r<M.length) (hi:i<M.length) {k:Nat} (hk:k<M.length):((qc9 r i col M).getD k []).length=n:=by
  rw [qjr hr hi]
  split
  · rw [List.length_map,qcd h hi]
  · split
    · exact qcd h hr
    · exact qcd h hk
theorem RedTo.step (h:RedTo n col M P) (hi:i<M.length) (hri:P.length≤i) (hne:ent M i col≠Fl.zero):RedTo n (col+1) (qhh P.length col (qc9 P.length i col M)) (P++[col]):=by
  have hr:P.length<M.length:=by omega
  generalize hN:qc9 P.length i col M=N
  have hNl:N.length=M.length:=by rw [←hN,qdr]
  have hNg:∀ k,N.getD k []=if k=P.length then (M.getD i []).map (mul (inv (ent M i col))) else if k=i then M.getD P.length [] else M.getD k []:=fun k=>by rw [←hN];exact qjr hr hi
  have hNw:∀ k,k<M.length→(N.getD k []).length=n:=fun k hk=>by rw [←hN];exact qhg h.width hr hi hk
  have eN:∀ k j,ent N k j=if k=P.length then mul (inv (ent M i col)) (ent M i j) else if k=i then ent M P.length j else ent M k j:=by
    intro k j
    unfold ent
    rw [hNg]
    split
    · exact congrFun (qp9 (xs:=M.getD i []) (a:=inv (ent M i col))) j
    · split<;>rfl
  have e:∀ k j,k<M.length→ent (qhh P.length col N) k j=if k=P.length then mul (inv (ent M i col)) (ent M i j) else add (ent N k j) (mul (neg Fl.one) (mul (ent N k col) (mul (inv (ent M i col)) (ent M i j)))):=by
    intro k j hk
    unfold ent
    rw [qff (by rw [hNl];exact hk)]
    split
    · have:=eN P.length j
      rw [if_pos rfl] at this
      exact this
    · have h2:=congrFun (toV_lsub (xs:=N.getD k []) (ys:=N.getD P.length []) (a:=ent N k col) (by rw [hNw k hk,hNw _ hr])) j
      have h3:=eN P.length j
      rw [if_pos rfl] at h3
      refine h2.trans ?_
      show add (ent N k j) (mul (neg Fl.one) (mul (ent N k col) (ent N P.length j)))=_
      rw [h3];rfl
  have low:∀ k j,k<M.length→j<col→ent (qhh P.length col N) k j=if k=P.length then Fl.zero else ent N k j:=by
    intro k j hk hj
    have h0:ent M i j=Fl.zero:=h.zero i j hri hi hj
    rw [e k j hk,h0,Fl.mul_zero,Fl.mul_zero,Fl.mul_zero,add_zero]
  have atc:∀ k,k<M.length→ent (qhh P.length col N) k col=if k=P.length then Fl.one else Fl.zero:=by
    intro k hk
    rw [e k col hk,mul_comm (inv _) (ent M i col),mul_inv _ hne]
    split
    · rfl
    · rw [mul_one]
      exact congrFun (vneg (fun _:Nat=>ent N k col)) 0
  have lowN:∀ k j,k≠P.length→j<col→ent N k j=if k=i then Fl.zero else ent M k j:=by
    intro k j hk hj
    rw [eN,if_neg hk]
    split
    · exact h.zero _ _ (Nat.le_refl _) hr hj
    · rfl
  have hlen:(P++[col]).length=P.length+1:=by simp
  refine⟨by rw [qcc,hNl,hlen];omega,fun x hx=>?_,fun a ha=>?_,fun a b hab hb=>?_,fun a ha=>?_,fun a k ha hk hka=>?_,fun a j ha hj=>?_,fun k j hk hkm hj=>?_⟩
  · obtain⟨k,hk,rfl⟩:=List.mem_iff_getElem.1 hx
    rw [qcc,hNl] at hk
    have:=qff (r:=P.length) (col:=col) (M:=N) (k:=k) (by rw [hNl];exact hk)
    rw [qcj (by rw [qcc,hNl];exact hk)] at this
    rw [this]
    split
    · exact hNw _ hr
    · rw [qjq (by rw [hNw k hk,hNw _ hr]),hNw k hk]
  · rw [qd1]
    split
    · rename_i hlt;have:=h.lt a hlt;omega
    · rw [if_pos (by omega)];omega
  · rw [qd1,qd1,if_pos (by omega)]
    split
    · rename_i hlt;exact h.inc a b hab hlt
    · rw [if_pos (by omega)];exact h.lt a (by omega)
  · rw [qd1]
    split
    · rename_i hlt
      have hc:=h.lt a hlt
      rw [low a _ (by omega) hc,if_neg (by omega),lowN a _ (by omega) hc,if_neg (by omega)]
      exact h.one a hlt
    · rw [if_pos (by omega),atc a (by omega),if_pos (by omega)]
  · rw [qcc,hNl] at hk
    rw [qd1]
    split
    · rename_i hlt
      have hc:=h.lt a hlt
      rw [low k _ hk hc]
      split
      · rfl
      · rename_i hkr
        rw [lowN k _ hkr hc]
        split
        · rfl
        · exact h.alone a k hlt hk hka
    · rw [if_pos (by omega),atc k hk,if_neg (by omega)]
  · rw [qd1] at hj
    split at hj
    · rename_i hlt
      have hc:=h.lt a hlt
      rw [low a _ (by omega) (by omega),if_neg (by omega),lowN a _ (by omega) (by omega),if_neg (by omega)]
      exact h.lead a j hlt hj
    · rw [if_pos (by omega)] at hj
      rw [low a _ (by omega) hj,if_pos (by omega)]
  · rw [qcc,hNl] at hkm
    rw [hlen] at hk
    by_cases hjc:j=col
    · subst hjc;rw [atc k hkm,if_neg (by omega)]
    · rw [low k j hkm (by omega),if_neg (by omega),lowN k j (by omega) (by omega)]
      split
      · rfl
      · exact h.zero k j (by omega) hkm (by omega)
theorem LSpan.at_ {M:List (List α)} {k:Nat} (hk:k<M.length):LSpan M (toV (M.getD k [])):=LSpan.mem (getD_mem hk)
theorem qqd (hw:∀ x∈M,x.length=n) (hr:r<M.length) (hi:i<M.length) (hne:ent M i col≠Fl.zero) (u:Vc α):LSpan (qhh r col (qc9 r i col M)) u↔LSpan M u:=by
  generalize hN:qc9 r i col M=N
  have hNl:N.length=M.length:=by rw [←hN,qdr]
  have hNg:∀ k,N.getD k []=if k=r then (M.getD i []).map (mul (inv (ent M i col))) else if k=i then M.getD r [] else M.getD k []:=fun k=>by rw [←hN];exact qjr hr hi
  have hNw:∀ k,k<M.length→(N.getD k []).length=n:=fun k hk=>by rw [←hN];exact qhg hw hr hi hk
  have toN:∀ u,LSpan N u↔LSpan M u:=by
    intro u
    constructor
    · refine LSpan.mono fun x hx=>?_
      obtain⟨k,hk,rfl⟩:=List.mem_iff_getElem.1 hx
      rw [←qcj hk,hNg]
      split
      · rw [qp9];exact Span.smul _ (LSpan.at_ hi)
      · split
        · exact LSpan.at_ hr
        · exact LSpan.at_ (by omega)
    · refine LSpan.mono fun x hx=>?_
      obtain⟨k,hk,rfl⟩:=List.mem_iff_getElem.1 hx
      rw [←qcj hk]
      have hs:LSpan N (vs (inv (ent M i col)) (toV (M.getD i []))):=by
        have:=LSpan.at_ (M:=N) (k:=r) (by omega)
        rw [hNg,if_pos rfl,qp9] at this
        exact this
      have hi':LSpan N (toV (M.getD i [])):=by
        have:=Span.smul (ent M i col) hs
        rw [vs_vs,mul_inv _ hne,vs_one] at this
        exact this
      by_cases hki:k=i
      · rw [hki];exact hi'
      · by_cases hkr:k=r
        · subst hkr
          have:=LSpan.at_ (M:=N) (k:=i) (by omega)
          rw [hNg,if_neg (Ne.symm hki),if_pos rfl] at this
          exact this
        · have:=LSpan.at_ (M:=N) (k:=k) (by omega)
          rw [hNg,if_neg hkr,if_neg hki] at this
          exact this
  refine Iff.trans ?_ (toN u)
  have hEl:=qcc r col N
  have sub:∀ k,k<N.length→k≠r→toV ((qhh r col N).getD k [])=va (toV (N.getD k [])) (vs (neg Fl.one) (vs (ent N k col) (toV (N.getD r [])))):=by
    intro k hk hkr
    rw [qff hk,if_neg hkr,toV_lsub (by rw [hNw k (by omega),hNw r hr])]
  have atr:(qhh r col N).getD r []=N.getD r []:=by rw [qff (by omega),if_pos rfl]
  constructor
  · refine LSpan.mono fun x hx=>?_
    obtain⟨k,hk,rfl⟩:=List.mem_iff_getElem.1 hx
    rw [←qcj hk]
    by_cases hkr:k=r
    · rw [hkr,atr];exact LSpan.at_ (by omega)
    · rw [sub k (by omega) hkr]
      exact Span.add (LSpan.at_ (by omega)) (Span.smul _ (Span.smul _ (LSpan.at_ (by omega))))
  · refine LSpan.mono fun x hx=>?_
    obtain⟨k,hk,rfl⟩:=List.mem_iff_getElem.1 hx
    rw [←qcj hk]
    have hrr:LSpan (qhh r col N) (toV (N.getD r [])):=by
      have:=LSpan.at_ (M:=qhh r col N) (k:=r) (by omega)
      rw [atr] at this
      exact this
    by_cases hkr:k=r
    · rw [hkr];exact hrr
    · have h1:=LSpan.at_ (M:=qhh r col N) (k:=k) (by omega)
      rw [sub k hk hkr] at h1
      have h2:LSpan (qhh r col N) (va (va (toV (N.getD k [])) (vs (neg Fl.one) (vs (ent N k col) (toV (N.getD r []))))) (vs (ent N k col) (toV (N.getD r [])))):=Span.add h1 (Span.smul _ hrr)
      rw [qhx,va_comm (vs (neg Fl.one) _),vneg,qfh] at h2
      exact h2
theorem RedTo.done (h:RedTo n n M P):LRed n (M.take P.length)∧∀ u,LSpan (M.take P.length) u↔LSpan M u:=by
  have hl:(M.take P.length).length=P.length:=by rw [List.length_take];have:=h.len;omega
  have hg:∀ k,k<P.length→(M.take P.length).getD k []=M.getD k []:=fun k hk=>by
    simp only [List.getD_eq_getElem?_getD,List.getElem?_take_of_lt hk]
  have hpv:∀ k,k<P.length→lpiv (M.getD k [])=P.getD k 0:=fun k hk=>by
    have hkm:k<M.length:=by have:=h.len;omega
    refine lpiv_eq (by rw [qcd h.width hkm];exact h.lt k hk) (fun j hj=>h.lead k j hk hj) ?_
    rw [show (M.getD k []).getD (P.getD k 0) Fl.zero=Fl.one from h.one k hk]
    exact one_ne
  refine⟨⟨fun x hx=>?_,?_⟩,fun u=>⟨LSpan.mono fun x hx=>LSpan.mem (List.mem_of_mem_take hx),LSpan.mono fun x hx=>?_⟩⟩
  · obtain⟨k,hk,rfl⟩:=List.mem_iff_getElem.1 hx
    rw [hl] at hk
    rw [←qcj (by rw [hl];exact hk),hg k hk,hpv k hk]
    exact⟨qcd h.width (by have:=h.len;omega),h.lt k hk,h.one k hk⟩
  · refine List.pairwise_iff_getElem.2 fun a b ha hb hab=>?_
    rw [hl] at ha hb
    rw [←qcj (by rw [hl];exact ha),←qcj (by rw [hl];exact hb),hg a ha,hg b hb,hpv a ha,hpv b hb]
    have hm:=h.len
    exact⟨h.inc a b hab hb,h.alone b a hb (by omega) (by omega),h.alone a b ha (by omega) (by omega)⟩
  · obtain⟨k,hk,rfl⟩:=List.mem_iff_getElem.1 hx
    rw [←qcj hk]
    by_cases hkP:k<P.length
    · rw [←hg k hkP];exact LSpan.at_ (by rw [hl];exact hkP)
    · have:toV (M.getD k [])=vz:=by
        funext j
        by_cases hj:j<n
        · exact h.zero k j (by omega) hk hj
        · exact qf3 (by rw [qcd h.width hk];omega)
      rw [this];exact .zero
end
end
end Go.Sim

namespace Go.Sim
open Go Go.Proofs
section
variable {α:Type} [Fl α] [DecidableEq α] {cd:α→Nat} {p e b c q:Nat} {blk:AB} {H:AH}
def qfv {β:Type} (d:β) (l:List β) (i r:Nat):List β:=(l.set i (l.getD r d)).set r (l.getD i d)
theorem qdj {β:Type} {d:β} {l:List β} {i r:Nat}:(qfv d l i r).length=l.length:=by simp [qfv]
theorem qgk {β:Type} {d:β} {l:List β} {i r k:Nat} (hi:i<l.length) (hr:r<l.length):(qfv d l i r).getD k d=if k=r then l.getD i d else if k=i then l.getD r d else l.getD k d:=by
  unfold qfv
  rw [getD_set (by simpa using hr)]
  split
  · rfl
  · rw [getD_set hi]
theorem qq5 {β:Type} {d:β} {l:List β} {i r:Nat} (hi:i<l.length) (hr:r<l.length) {x:β} (hx:x∈qfv d l i r):x∈l:=by
  rcases List.mem_or_eq_of_mem_set hx with hx|rfl
  · rcases List.mem_or_eq_of_mem_set hx with hx|rfl
    · exact hx
    · exact getD_mem hr
  · exact getD_mem hi
theorem nodup_of_getD {l:List Nat} (h:∀ i j,i<j→j<l.length→l.getD i 0≠l.getD j 0):l.Nodup:=by
  refine List.pairwise_iff_getElem.2 fun i j hi hj hij=>?_
  have:=h i j hij hj
  simpa [List.getD_eq_getElem?_getD,List.getElem?_eq_getElem hi,List.getElem?_eq_getElem hj] using this
theorem lswap_nodup {l:List Nat} {i r:Nat} (h:l.Nodup) (hi:i<l.length) (hr:r<l.length):(qfv 0 l i r).Nodup:=by
  refine nodup_of_getD fun a b hab hb=>?_
  rw [qdj] at hb
  have ne:∀ {x y},x<l.length→y<l.length→x≠y→l.getD x 0≠l.getD y 0:=fun hx hy hne=>qgh h hx hy hne
  rw [qgk hi hr,qgk hi hr]
  by_cases h1:a=r
  · rw [if_pos h1,if_neg (show ¬b=r by omega)]
    by_cases h2:b=i
    · rw [if_pos h2];exact ne hi hr (by omega)
    · rw [if_neg h2];exact ne hi hb (by omega)
  · rw [if_neg h1]
    by_cases h2:a=i
    · rw [if_pos h2]
      by_cases h3:b=r
      · rw [if_pos h3];exact ne hr hi (by omega)
      · rw [if_neg h3,if_neg (show ¬b=i by omega)];exact ne hr hb (by omega)
    · rw [if_neg h2]
      by_cases h3:b=r
      · rw [if_pos h3];exact ne (by omega) hi (by omega)
      · rw [if_neg h3]
        by_cases h4:b=i
        · rw [if_pos h4];exact ne (by omega) hr (by omega)
        · rw [if_neg h4];exact ne (by omega) hb (by omega)
theorem st_sp {bl k n x:Nat} {bs:List Nat} {t:TypeId} {op:Option Nat} (h:H[bl]? = some (.cells (bs.map (rsl n)) t op false)) (hk:k<bs.length):xact (.st 1) H [.pointer (some ⟨bl,k,none⟩),rsl n x]=some (undef,H.set bl (.cells ((bs.set k x).map (rsl n)) t op false)):=by
  unfold xact
  simp only [h]
  rw [if_pos ⟨rfl,rfl,by simp;omega⟩]
  simp [putL,List.map_set,qbn]
end
end Go.Sim

namespace Go.Sim
open Go Go.Proofs
theorem Pre.ext {H H':AH} (h:Pre H H'):∃ J,H'=H++J:=by
  refine⟨H'.drop H.length,?_⟩
  refine List.ext_getElem? fun k=>?_
  by_cases hk:k<H.length
  · rw [List.getElem?_append_left hk,h k hk]
  · rw [List.getElem?_append_right (by omega),List.getElem?_drop]
    congr 1;omega
theorem FN.pre0 {P:Program} {f:FuncId} {args:List Value} {H:AH} {v:Value} (h:FN P f args H (fun r H'=>Pre H H'∧r=v)) (hg:Sim.ground v=true):FN P f args H (fun r H'=>r=v∧H'=H):=
  FN.gc0 (h.mono fun r H' ⟨hp,hr⟩=>⟨hr,by rw [hr];exact hg,hp.ext⟩)
theorem RowX.of_take {H:AH} {b k c:Nat} {cs:List Value} {e:TypeId} {op:Option Nat} {r:Bool} (h:H[b]? = some (.cells cs e op r)) (hk:k≤cs.length) (hc:k≤c):RowX H (.slice (some ⟨b,0,none⟩) k c) (cs.take k):=by
  have hl:(cs.take k).length=k:=by simp;omega
  refine⟨.inr ⟨b,0,c,cs,e,op,r,by rw [hl],h,fun j hj=>?_,by omega⟩,?_⟩
  · rw [hl] at hj;rw [Nat.zero_add,List.getElem?_take_of_lt hj]
  · unfold erow
    simp [slen,h,hk]
section
variable {α:Type} [Fl α] [DecidableEq α] {cd:α→Nat} {p e b c q:Nat} {blk:AB} {H:AH}
theorem reduced_eq {n:Nat} {M M':List (List α)} {P:List Nat} (hl:∀ x∈M,x.length=n) (h:RedTo n n M' P) (hs:∀ u,LSpan M' u↔LSpan M u):M'.take P.length=qb4 M:=by
  obtain⟨h1,h2,_⟩:=qcb hl
  obtain⟨h3,h4⟩:=h.done
  exact h3.unique h1 fun u=>(h4 u).trans ((hs u).trans (h2 u).symm)
end
end Go.Sim
