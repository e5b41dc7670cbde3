/- Part of the proof: ZSpA, ZSpB, ZSpC, ZSpD, ZSpP, ZSpE, ZSpM, ZSpQ, ZSpR, ZSpG3, ZSpS, ZSpT, ZSpU. -/
import Derived.Test.YtbfpepbfpebmmaaGreatMMatShSToXfS
import Derived.Test.YtbfpepbfpebmmaaGreatMMatLinA
import Derived.Test.YtbfpepbfpebmmaaGreatMMatZSpG1
import Derived.Test.YtbfpepbfpebmmaaGreatMMatShD
import Derived.Test.YtbfpepbfpebmmaaGreatMMatZShMixToZPfFieldI
import Derived.KernelRfl
set_option linter.all false
namespace Go.Sim
open Go Go.Proofs
structure FOK (α:Type) [Fl α] (cd:α→Nat) (p e b c q:Nat) (blk:AB):Prop where
  inj:∀ x y,cd x=cd y→x=y
  lt:∀ x,cd x<q
  sur:∀ n,n<q→∃ x,cd x=n
  zero:cd Fl.zero=0
  one:cd Fl.one=1
  q64:q≤64
  q2:2≤q
  mul:∀ (H:AH) x y,H[b]? = some blk→FN Tryz.prog 131 [fldv p e b e c,nv (cd x),nv (cd y)] H (fun v H'=>v=nv (cd (Fl.mul x y))∧H'=H)
  add:∀ (H:AH) x y,H[b]? = some blk→FN Tryz.prog 150 [fldv p e b e c,nv (cd x),nv (cd y)] H (fun v H'=>v=nv (cd (Fl.add x y))∧H'=H)
  sub:∀ (H:AH) x y,H[b]? = some blk→FN Tryz.prog 115 [fldv p e b e c,nv (cd x),nv (cd y)] H (fun v H'=>v=nv (cd (Fl.add x (Fl.neg y)))∧H'=H)
  neg:∀ (H:AH) x,H[b]? = some blk→FN Tryz.prog 96 [fldv p e b e c,nv (cd x)] H (fun v H'=>v=nv (cd (Fl.neg x))∧H'=H)
  inv:∀ (H:AH) x,H[b]? = some blk→x≠Fl.zero→FN Tryz.prog 142 [fldv p e b e c,nv (cd x)] H (fun v H'=>v=.tuple [nv (cd (Fl.inv x)),nv 0].toArray∧H'=H)
  size:∀ (H:AH),H[b]? = some blk→FN Tryz.prog 210 [fldv p e b e c] H (fun v H'=>v=nv q∧H'=H)
  rmul:∀ (H:AH) x y,H[b]? = some blk→FN Tryz.prog 132 [fldv p e b e c,nv (cd x),nv (cd y)] H (fun v H'=>v=nv (cd (Fl.mul x y))∧H'=H)
  radd:∀ (H:AH) x y,H[b]? = some blk→FN Tryz.prog 167 [fldv p e b e c,nv (cd x),nv (cd y)] H (fun v H'=>v=nv (cd (Fl.add x y))∧H'=H)
  rneg:∀ (H:AH) x,H[b]? = some blk→FN Tryz.prog 81 [fldv p e b e c,nv (cd x)] H (fun v H'=>v=nv (cd (Fl.neg x))∧H'=H)
  rinv:∀ (H:AH) x,H[b]? = some blk→x≠Fl.zero→FN Tryz.prog 107 [fldv p e b e c,nv (cd x)] H (fun v H'=>v=.tuple [nv (cd (Fl.inv x)),nv 0].toArray∧H'=H)
  rsize:∀ (H:AH),H[b]? = some blk→FN Tryz.prog 166 [fldv p e b e c] H (fun v H'=>v=nv q∧H'=H)
section
variable {α:Type} [Fl α] {cd:α→Nat} {p e b c q:Nat} {blk:AB} {H:AH}
abbrev evs (cd:α→Nat) (xs:List α):List Value:=xs.map fun x=>nv (cd x)
abbrev fbx (p e b c:Nat):AB:=.cells [nv p,nv e,.slice (some ⟨b,0,none⟩) e c] 76 none false
def qc1 (xs:List α) (a:α) (ys:List α):List α:=List.zipWith (fun x y=>Fl.add x (Fl.mul a y)) xs ys
def lpiv [DecidableEq α] (xs:List α):Nat:=match xs with
  | []=>0
  | x :: l=>if x=Fl.zero then lpiv l+1 else 0
theorem lpiv_le [DecidableEq α]:∀ (xs:List α),lpiv xs≤xs.length
  | []=>Nat.le_refl _
  | x :: l=>by
    unfold lpiv
    have:=lpiv_le l
    split<;>simp<;>omega
theorem qcv [DecidableEq α]:∀ (xs:List α) (k:Nat),k<lpiv xs→xs.getD k Fl.zero=Fl.zero
  | [],_,_=>by simp
  | x :: l,k,h=>by
    unfold lpiv at h
    split at h
    · rename_i hx
      cases k with
      | zero=>simpa using hx
      | succ k=>simpa using qcv l k (by omega)
    · omega
theorem qm4 [DecidableEq α]:∀ (xs:List α),lpiv xs<xs.length→xs.getD (lpiv xs) Fl.zero≠Fl.zero
  | [],h=>by simp [lpiv] at h
  | x :: l,h=>by
    unfold lpiv at h ⊢
    split
    · rename_i hx
      rw [if_pos hx] at h
      simpa using qm4 l (by simpa using h)
    · simpa
theorem FOK.eq0 (F:FOK α cd p e b c q blk) (x:α):cd x=0↔x=Fl.zero:=⟨fun h=>F.inj _ _ (by rw [h,F.zero]),fun h=>by rw [h,F.zero]⟩
end
end Go.Sim

namespace Go.Sim
open Go Go.Proofs
section
variable {α:Type} [Fl α] {cd:α→Nat} {p e b c q:Nat} {blk:AB} {H:AH}
abbrev evr (cd:α→Nat) (xss:List (List α)):List (List Value):=xss.map (evs cd)
theorem qds {β γ:Type} (f:β→γ) (xs:List β) (k:Nat) (d:β):(xs.map f).getD k (f d)=f (xs.getD k d):=by
  simp only [List.getD_eq_getElem?_getD,List.getElem?_map]
  cases xs[k]?<;>rfl
theorem RowR.open {v:Value} {xss:List (List α)} (h:RowR H v (evr cd xss)):∃ vs,Row H v vs∧vs.length=xss.length∧∀ k,k<xss.length→Row H (vs.getD k undef) (evs cd (xss.getD k [])):=by
  obtain⟨vs,h1,h2,h3⟩:=h
  refine⟨vs,h1.1,by simpa using h2,fun k hk=>?_⟩
  have:=h3 k (by simpa using hk)
  rwa [show ([]:List Value)=evs cd ([]:List α) from rfl,qds] at this
theorem qb3 (xs:List α):(evs cd xs).all qg5=true:=by simp [evs,qg5]
def ldotk (xs ys:List α):Nat→α
  | 0=>Fl.zero
  | k+1=>Fl.add (ldotk xs ys k) (Fl.mul (xs.getD k Fl.zero) (ys.getD k Fl.zero))
theorem qd8 {xs ys:List α} {a:α} (h:xs.length≤ys.length):(qc1 xs a ys).length=xs.length:=by simp [qc1];omega
theorem qb5 {n:Nat} {xss:List (List α)} (hl:∀ x∈xss,x.length=n) {k:Nat} (hk:k<xss.length):(xss.getD k []).length=n:=by
  rw [List.getD_eq_getElem?_getD,List.getElem?_eq_getElem hk];exact hl _ (List.getElem_mem hk)
def qdg (n j:Nat):List α:=(List.replicate n Fl.zero).set j Fl.one
end
end Go.Sim

namespace Go.Sim
open Go Go.Proofs
theorem qnp {β:Type} {xs ys:List β} {k:Nat} (d:β) (h1:k<xs.length) (h2:k<ys.length) (h:xs.take k=ys.take k) (he:xs.getD k d=ys.getD k d):xs.take (k+1)=ys.take (k+1):=by
  rw [List.take_succ_eq_append_getElem h1,List.take_succ_eq_append_getElem h2,h]
  simp only [List.getD_eq_getElem?_getD,List.getElem?_eq_getElem h1,List.getElem?_eq_getElem h2,Option.getD_some] at he
  rw [he]
theorem RowR.openN {H:AH} {v:Value} {xss:List (List Nat)} (h:RowR H v (xss.map fun l=>l.map nv)):∃ vs,Row H v vs∧vs.length=xss.length∧∀ k,k<xss.length→Row H (vs.getD k undef) ((xss.getD k []).map nv):=by
  obtain⟨vs,h1,h2,h3⟩:=h
  refine⟨vs,h1.1,by simpa using h2,fun k hk=>?_⟩
  have:=h3 k (by simpa using hk)
  rwa [show ([]:List Value)=([]:List Nat).map nv from rfl,qds (fun l:List Nat=>l.map nv)] at this
section
variable {α:Type} [Fl α] [DecidableEq α] {cd:α→Nat} {p e b c q:Nat} {blk:AB} {H:AH}
def qrx (B:List (List α)) (v:List α):Nat→List α
  | 0=>v
  | k+1=>qc1 (qrx B v k) (Fl.neg ((qrx B v k).getD (lpiv (B.getD k [])) Fl.zero)) (B.getD k [])
def lclr (B:List (List α)) (v:List α):List α:=qrx B v B.length
theorem qgb {n:Nat} {B:List (List α)} {v:List α} (hl:∀ x∈B,x.length=n) (hv:v.length=n):∀ k,k≤B.length→(qrx B v k).length=n
  | 0,_=>hv
  | k+1,hk=>by
    have h1:=qgb hl hv k (by omega)
    rw [qrx,qd8 (by rw [h1,qb5 hl hk];exact Nat.le_refl _),h1]
end
end Go.Sim

namespace Go.Sim
open Go Go.Proofs
section
variable {α:Type} [Fl α] [DecidableEq α] {cd:α→Nat} {p e b c q:Nat} {blk:AB} {H:AH}
def qdb (pv:Nat) (w:List α) (st:List (List α)×Bool) (x:List α):List (List α)×Bool:=
  if st.2=false∧pv<lpiv x then (st.1++[w]++[qc1 x (Fl.neg (x.getD pv Fl.zero)) w],true) else (st.1++[qc1 x (Fl.neg (x.getD pv Fl.zero)) w],st.2)
def lputF (pv:Nat) (w:List α) (B:List (List α)):List (List α):=
  let st:=B.foldl (qdb pv w) ([],false)
  if st.2 then st.1 else st.1++[w]
def qpx (w:List α):List α:=qc1 (List.replicate w.length Fl.zero) (Fl.inv (w.getD (lpiv w) Fl.zero)) w
def lput (B:List (List α)) (v:List α):List (List α):=
  let w:=lclr B v
  if lpiv w=w.length then B else lputF (lpiv w) (qpx w) B
theorem qg9 {n:Nat} {B:List (List α)} {v:List α} (hl:∀ x∈B,x.length=n) (hv:v.length=n):(lclr B v).length=n:=qgb hl hv _ (Nat.le_refl _)
theorem lnorm_length (w:List α):(qpx w).length=w.length:=by unfold qpx;rw [qd8 (by simp)];simp
theorem qrd {pv:Nat} {w:List α}:∀ (l:List (List α)) (st:List (List α)×Bool),(l.foldl (qdb pv w) st).1.length≤st.1.length+l.length+(if st.2 then 0 else 1)∧(st.2=true→(l.foldl (qdb pv w) st).2=true)∧((l.foldl (qdb pv w) st).2=false→(l.foldl (qdb pv w) st).1.length=st.1.length+l.length)
  | [],st=>by simp
  | x :: l,st=>by
    have h:=qrd (pv:=pv) (w:=w) l (qdb pv w st x)
    simp only [List.foldl_cons,List.length_cons]
    obtain⟨h1,h2,h3⟩:=h
    by_cases hc:st.2=false∧pv<lpiv x
    · have e:qdb pv w st x=(st.1++[w]++[qc1 x (Fl.neg (x.getD pv Fl.zero)) w],true):=if_pos hc
      rw [e] at h1 h2 h3 ⊢
      refine⟨Nat.le_trans h1 ?_,fun _=>h2 rfl,fun hs=>?_⟩
      · simp [hc.1];omega
      · rw [h2 rfl] at hs;cases hs
    · have e:qdb pv w st x=(st.1++[qc1 x (Fl.neg (x.getD pv Fl.zero)) w],st.2):=if_neg hc
      rw [e] at h1 h2 h3 ⊢
      refine⟨Nat.le_trans h1 ?_,fun hs=>h2 hs,fun hs=>?_⟩
      · simp;omega
      · rw [h3 hs];simp;omega
def qbk (rows:List (List α)):List (List α):=rows.foldl lput []
def Piv (n:Nat) (B:List (List α)):Prop:=(∀ x∈B,x.length=n)∧∀ x∈B,lpiv x<n
theorem getD_mem {β:Type} {l:List β} {k:Nat} {d:β} (hk:k<l.length):l.getD k d∈l:=by
  rw [List.getD_eq_getElem?_getD,List.getElem?_eq_getElem hk];exact List.getElem_mem hk
end
end Go.Sim

namespace Go.Sim
section
variable {α:Type} [Fl α] [DecidableEq α]
open Fl
def toV (xs:List α):Vc α:=fun j=>xs.getD j zero
def rowV (L:List (List α)):Nat→Vc α:=fun i=>toV (L.getD i [])
def LSpan (L:List (List α)) (u:Vc α):Prop:=Span L.length (rowV L) u
theorem qft {xs:List α} {j:Nat} (h:xs.length≤j):toV xs j=zero:=by
  simp [toV,List.getD_eq_getElem?_getD,List.getElem?_eq_none h]
theorem toV_inj {xs ys:List α} (hl:xs.length=ys.length) (h:toV xs=toV ys):xs=ys:=by
  refine List.ext_getElem hl fun j h1 h2=>?_
  have:=congrFun h j
  simpa [toV,List.getD_eq_getElem?_getD,List.getElem?_eq_getElem h1,List.getElem?_eq_getElem h2] using this
theorem qgn {xs ys:List α} {a:α} (h:xs.length=ys.length):toV (qc1 xs a ys)=va (toV xs) (vs a (toV ys)):=by
  funext j
  by_cases hj:j<xs.length
  · have hj2:j<ys.length:=by omega
    simp [toV,qc1,va,vs,List.getD_eq_getElem?_getD,List.getElem?_zipWith,List.getElem?_eq_getElem hj,List.getElem?_eq_getElem hj2]
  · show toV _ j=add (toV xs j) (mul a (toV ys j))
    rw [qft (by rw [qd8 (by omega)];omega),qft (by omega),qft (by omega),Fl.mul_zero,add_zero]
theorem toV_zero (n:Nat):toV (List.replicate n (zero:α))=vz:=by
  funext j
  simp only [toV,vz,List.getD_eq_getElem?_getD,List.getElem?_replicate]
  split<;>rfl
theorem LSpan.mem {L:List (List α)} {x:List α} (h:x∈L):LSpan L (toV x):=by
  obtain⟨i,hi,rfl⟩:=List.mem_iff_getElem.1 h
  have:=Span.row (R:=rowV L) hi
  simpa [LSpan,rowV,List.getD_eq_getElem?_getD,List.getElem?_eq_getElem hi] using this
theorem LSpan.sub {L:List (List α)} {S:Vc α→Prop} (h0:S vz) (ha:∀ u v,S u→S v→S (va u v)) (hs:∀ c u,S u→S (vs c u)) (h:∀ x∈L,S (toV x)) {u:Vc α} (hu:LSpan L u):S u:=by
  induction hu with
  | zero=>exact h0
  | @step v i c _ hi ih =>
    refine ha _ _ ih (hs _ _ ?_)
    exact h _ (by simpa using getD_mem (d:=[]) hi)
theorem LSpan.mono {L L':List (List α)} (h:∀ x∈L,LSpan L' (toV x)) {u:Vc α} (hu:LSpan L u):LSpan L' u:=
  hu.sub .zero (fun _ _=>Span.add) (fun c _=>Span.smul c) h
theorem vneg (u:Vc α):va u (vs (neg Fl.one) u)=vz:=by
  funext j
  show add (u j) (mul (neg Fl.one) (u j))=zero
  have h:mul (u j) (add Fl.one (neg Fl.one))=zero:=by rw [add_neg,Fl.mul_zero]
  rw [mul_add,mul_one,mul_comm (u j) (neg Fl.one)] at h
  exact h
structure LRed (n:Nat) (L:List (List α)):Prop where
  row:∀ x∈L,x.length=n∧lpiv x<n∧x.getD (lpiv x) zero=Fl.one
  pw:L.Pairwise fun x y=>lpiv x<lpiv y∧x.getD (lpiv y) zero=zero∧y.getD (lpiv x) zero=zero
theorem LRed.nil (n:Nat):LRed n ([]:List (List α)):=⟨by simp,.nil⟩
theorem LRed.piv {n:Nat} {L:List (List α)} (h:LRed n L):Piv n L:=⟨fun x hx=>(h.row x hx).1,fun x hx=>(h.row x hx).2.1⟩
theorem qfd {L:List (List α)} {i:Nat} (hi:i<L.length):rowV L i=toV L[i]:=by simp [rowV,List.getD_eq_getElem?_getD,List.getElem?_eq_getElem hi]
theorem qcb {L:List (List α)} {i:Nat} (hi:i<L.length):L.getD i []=L[i]:=by simp [List.getD_eq_getElem?_getD,List.getElem?_eq_getElem hi]
theorem LRed.red {n:Nat} {L:List (List α)} (h:LRed n L):Red L.length (rowV L) (fun i=>lpiv (L.getD i [])):=by
  have pw:=List.pairwise_iff_getElem.1 h.pw
  refine⟨fun i j hij hj=>?_,fun i hi=>?_,fun i k hi hk hne=>?_,fun i j hi hj=>?_⟩
  · simp only [qcb hj,qcb (show i<L.length by omega)]
    exact (pw i j (by omega) hj hij).1
  · simp only [qcb hi,qfd hi]
    exact (h.row _ (List.getElem_mem hi)).2.2
  · simp only [qcb hi,qfd hk]
    rcases Nat.lt_or_gt_of_ne hne with hlt|hgt
    · exact (pw i k hi hk hlt).2.2
    · exact (pw k i hk hi hgt).2.1
  · simp only [qcb hi] at hj
    rw [qfd hi]
    exact qcv _ _ hj
theorem LRed.unique {n:Nat} {L L':List (List α)} (h:LRed n L) (h':LRed n L') (hs:∀ u,LSpan L u↔LSpan L' u):L=L':=by
  obtain⟨h1,_,h3⟩:=h.red.unique h'.red (fun i hi=>(hs _).1 (by rw [qfd hi];exact LSpan.mem (List.getElem_mem hi))) (fun i hi=>(hs _).2 (by rw [qfd hi];exact LSpan.mem (List.getElem_mem hi)))
  refine List.ext_getElem h1 fun i hi hi'=>?_
  have:=h3 i hi
  rw [qfd hi,qfd hi'] at this
  exact toV_inj (by rw [(h.row _ (List.getElem_mem hi)).1,(h'.row _ (List.getElem_mem hi')).1]) this
theorem qnb {n:Nat} {B:List (List α)} {v:List α} (hl:∀ x∈B,x.length=n) (hv:v.length=n):∀ k,k≤B.length→∃ s,LSpan B s∧toV (qrx B v k)=va (toV v) s
  | 0,_=>⟨vz,.zero,by rw [qrx,qc3]⟩
  | k+1,hk=>by
    obtain⟨s,h1,h2⟩:=qnb hl hv k (by omega)
    have hlen:=qgb hl hv k (by omega)
    have hk':k<B.length:=by omega
    rw [qrx,qgn (by rw [hlen,qb5 hl hk']),h2,qg3]
    refine⟨_,Span.add h1 (Span.smul _ ?_),rfl⟩
    have:=Span.row (R:=rowV B) hk'
    exact this
theorem qm9 {n:Nat} {B:List (List α)} {v:List α} (hB:LRed n B) (hv:v.length=n):∀ k,k≤B.length→∀ i,i<k→toV (qrx B v k) (lpiv (B.getD i []))=zero
  | 0,_,i,hi=>by omega
  | k + 1,hk,i,hi=>by
    have hl:=hB.piv.1
    have hlen:=qgb hl hv k (by omega)
    have hk':k<B.length:=by omega
    have R:=hB.red
    rw [qrx,qgn (by rw [hlen,qb5 hl hk'])]
    show add (toV (qrx B v k) _) (mul _ (rowV B k (lpiv (B.getD i []))))=zero
    by_cases hik:i=k
    · subst hik
      rw [R.one i hk',mul_one]
      exact add_neg _
    · rw [R.alone i k (by omega) hk' hik,Fl.mul_zero,add_zero]
      exact qm9 hB hv k (by omega) i (by omega)
def lins (p:Nat) (w:List α):List (List α)→List (List α)
  | []=>[w]
  | x :: l=>if p<lpiv x then w :: (x :: l).map (fun x=>qc1 x (neg (x.getD p zero)) w) else qc1 x (neg (x.getD p zero)) w :: lins p w l
theorem qnv {p:Nat} {w:List α}:∀ (l:List (List α)) (a:List (List α)),l.foldl (qdb p w) (a,true)=(a++l.map (fun x=>qc1 x (neg (x.getD p zero)) w),true)
  | [],a=>by simp
  | x :: l,a=>by
    rw [List.foldl_cons,show qdb p w (a,true) x=(a++[qc1 x (neg (x.getD p zero)) w],true) from if_neg fun h=>by simp at h,qnv l]
    simp
theorem putF_acc {p:Nat} {w:List α}:∀ (l:List (List α)) (a:List (List α)),(let st:=l.foldl (qdb p w) (a,false);if st.2 then st.1 else st.1++[w])=a++lins p w l
  | [],a=>by simp [lins]
  | x :: l,a=>by
    rw [List.foldl_cons]
    by_cases h:p<lpiv x
    · rw [show qdb p w (a,false) x=(a++[w]++[qc1 x (neg (x.getD p zero)) w],true) from if_pos ⟨rfl,h⟩,qnv l]
      simp [lins,h]
    · rw [show qdb p w (a,false) x=(a++[qc1 x (neg (x.getD p zero)) w],false) from if_neg fun hh=>h hh.2,putF_acc l]
      simp [lins,h]
theorem lputF_lins {p:Nat} {w:List α} (B:List (List α)):lputF p w B=lins p w B:=by
  have:=putF_acc (p:=p) (w:=w) B []
  simpa [lputF] using this
theorem lpiv_eq {xs:List α} {k:Nat} (hk:k<xs.length) (h0:∀ j,j<k→xs.getD j zero=zero) (h1:xs.getD k zero≠zero):lpiv xs=k:=by
  rcases Nat.lt_trichotomy (lpiv xs) k with h|h|h
  · exact absurd (h0 _ h) (qm4 xs (by omega))
  · exact h
  · exact absurd (qcv xs k h) h1
theorem qp9 {p:Nat} {w:List α}:∀ {l:List (List α)} {y:List α},y∈lins p w l→y=w∨∃ x∈l,y=qc1 x (neg (x.getD p zero)) w
  | [],y,h=>by simp [lins] at h;exact .inl h
  | x :: l,y,h=>by
    unfold lins at h
    split at h
    · rcases List.mem_cons.1 h with h|h
      · exact .inl h
      · obtain⟨z,hz,rfl⟩:=List.mem_map.1 h
        exact .inr ⟨z,hz,rfl⟩
    · rcases List.mem_cons.1 h with h|h
      · exact .inr ⟨x,by simp,h⟩
      · rcases qp9 h with h|⟨z,hz,h⟩
        · exact .inl h
        · exact .inr ⟨z,by simp [hz],h⟩
theorem lins_has {p:Nat} {w:List α}:∀ (l:List (List α)),w∈lins p w l∧∀ x∈l,qc1 x (neg (x.getD p zero)) w∈lins p w l
  | []=>by simp [lins]
  | x :: l=>by
    unfold lins
    split
    · exact⟨by simp,fun z hz=>List.mem_cons_of_mem _ (List.mem_map.2 ⟨z,hz,rfl⟩)⟩
    · obtain⟨h1,h2⟩:=lins_has (p:=p) (w:=w) l
      refine⟨by simp [h1],fun z hz=>?_⟩
      rcases List.mem_cons.1 hz with rfl|hz
      · simp
      · exact List.mem_cons_of_mem _ (h2 z hz)
structure NewRow (n:Nat) (B:List (List α)) (w:List α):Prop where
  len:w.length=n
  lt:lpiv w<n
  one:w.getD (lpiv w) zero=Fl.one
  at_:∀ x∈B,w.getD (lpiv x) zero=zero
section
variable {n:Nat} {B:List (List α)} {w:List α}
theorem more_at (h:NewRow n B w) {x:List α} (hx:x.length=n) (j:Nat):(qc1 x (neg (x.getD (lpiv w) zero)) w).getD j zero=add (x.getD j zero) (mul (neg (x.getD (lpiv w) zero)) (w.getD j zero)):=
  congrFun (qgn (a:=neg (x.getD (lpiv w) zero)) (show x.length=w.length by rw [hx,h.len])) j
theorem qf9 (h:Fl.one=(zero:α)):False:=one_ne h
theorem qk8 (hB:LRed n B) (h:NewRow n B w) {x:List α} (hx:x∈B):lpiv (qc1 x (neg (x.getD (lpiv w) zero)) w)=lpiv x∧(qc1 x (neg (x.getD (lpiv w) zero)) w).getD (lpiv x) zero=Fl.one:=by
  obtain⟨h1,h2,h3⟩:=hB.row x hx
  have e:(qc1 x (neg (x.getD (lpiv w) zero)) w).getD (lpiv x) zero=Fl.one:=by
    rw [more_at h h1,h.at_ x hx,Fl.mul_zero,add_zero,h3]
  refine⟨lpiv_eq (by rw [qd8 (by rw [h1,h.len];exact Nat.le_refl _),h1];exact h2) (fun j hj=>?_) (by rw [e];exact one_ne),e⟩
  rw [more_at h h1,qcv x j hj]
  have hne:lpiv x≠lpiv w:=fun he=>qf9 (by rw [←h.one,←he];exact h.at_ x hx)
  rcases Nat.lt_or_gt_of_ne hne with hlt|hgt
  · rw [qcv w j (by omega),Fl.mul_zero,add_zero]
  · rw [qcv x (lpiv w) hgt]
    have:neg (zero:α)=zero:=by have:=add_neg (zero:α);rwa [Fl.zero_add] at this
    rw [this,Fl.zero_mul,add_zero]
theorem more_w (h:NewRow n B w) {x:List α} (hx:x.length=n):(qc1 x (neg (x.getD (lpiv w) zero)) w).getD (lpiv w) zero=zero:=by
  rw [more_at h hx,h.one,mul_one,add_neg]
theorem more_other (h:NewRow n B w) {x y:List α} (hx:x.length=n) (hy:y∈B):(qc1 x (neg (x.getD (lpiv w) zero)) w).getD (lpiv y) zero=x.getD (lpiv y) zero:=by
  rw [more_at h hx,h.at_ y hy,Fl.mul_zero,add_zero]
theorem lins_red (hB:LRed n B) (h:NewRow n B w):LRed n (lins (lpiv w) w B):=by
  refine⟨fun y hy=>?_,?_⟩
  · rcases qp9 hy with rfl|⟨x,hx,rfl⟩
    · exact⟨h.len,h.lt,h.one⟩
    · obtain⟨h1,h2,h3⟩:=hB.row x hx
      obtain⟨p1,p2⟩:=qk8 hB h hx
      exact⟨by rw [qd8 (by rw [h1,h.len];exact Nat.le_refl _),h1],by rw [p1];exact h2,by rw [p1];exact p2⟩
  · have pairf:∀ x∈B,∀ y∈B,(lpiv x<lpiv y∧x.getD (lpiv y) zero=zero∧y.getD (lpiv x) zero=zero)→(lpiv (qc1 x (neg (x.getD (lpiv w) zero)) w)<lpiv (qc1 y (neg (y.getD (lpiv w) zero)) w)∧(qc1 x (neg (x.getD (lpiv w) zero)) w).getD (lpiv (qc1 y (neg (y.getD (lpiv w) zero)) w)) zero=zero∧(qc1 y (neg (y.getD (lpiv w) zero)) w).getD (lpiv (qc1 x (neg (x.getD (lpiv w) zero)) w)) zero=zero):=by
      intro x hx y hy ⟨q1,q2,q3⟩
      rw [(qk8 hB h hx).1,(qk8 hB h hy).1]
      exact⟨q1,by rw [more_other h (hB.row x hx).1 hy];exact q2,by rw [more_other h (hB.row y hy).1 hx];exact q3⟩
    have wf:∀ x∈B,lpiv w<lpiv x→(lpiv w<lpiv (qc1 x (neg (x.getD (lpiv w) zero)) w)∧w.getD (lpiv (qc1 x (neg (x.getD (lpiv w) zero)) w)) zero=zero∧(qc1 x (neg (x.getD (lpiv w) zero)) w).getD (lpiv w) zero=zero):=by
      intro x hx hlt
      rw [(qk8 hB h hx).1]
      exact⟨hlt,h.at_ x hx,more_w h (hB.row x hx).1⟩
    have fw:∀ x∈B,¬lpiv w<lpiv x→(lpiv (qc1 x (neg (x.getD (lpiv w) zero)) w)<lpiv w∧(qc1 x (neg (x.getD (lpiv w) zero)) w).getD (lpiv w) zero=zero∧w.getD (lpiv (qc1 x (neg (x.getD (lpiv w) zero)) w)) zero=zero):=by
      intro x hx hlt
      rw [(qk8 hB h hx).1]
      have hne:lpiv x≠lpiv w:=fun he=>qf9 (by rw [←h.one,←he];exact h.at_ x hx)
      exact⟨by omega,more_w h (hB.row x hx).1,h.at_ x hx⟩
    have key:∀ l:List (List α),(∀ x∈l,x∈B)→l.Pairwise (fun x y=>lpiv x<lpiv y∧x.getD (lpiv y) zero=zero∧y.getD (lpiv x) zero=zero) →
        (lins (lpiv w) w l).Pairwise fun x y=>lpiv x<lpiv y∧x.getD (lpiv y) zero=zero∧y.getD (lpiv x) zero=zero:=by
      intro l
      induction l with
      | nil=>intro _ _;exact List.pairwise_singleton _ _
      | cons x l ih =>
        intro hm hp
        have hp':=List.pairwise_cons.1 hp
        unfold lins
        split
        · rename_i hlt
          refine List.pairwise_cons.2 ⟨fun y hy=>?_,?_⟩
          · obtain⟨z,hz,rfl⟩:=List.mem_map.1 hy
            refine wf z (hm z hz) ?_
            rcases List.mem_cons.1 hz with rfl|hz
            · exact hlt
            · have:=(hp'.1 z hz).1;omega
          · refine List.pairwise_map.2 (hp.imp_of_mem fun {a b} ha hb hab=>pairf a (hm a ha) b (hm b hb) hab)
        · rename_i hlt
          refine List.pairwise_cons.2 ⟨fun y hy=>?_,ih (fun z hz=>hm z (by simp [hz])) hp'.2⟩
          rcases qp9 hy with rfl|⟨z,hz,rfl⟩
          · exact fw x (hm x (by simp)) hlt
          · exact pairf x (hm x (by simp)) z (hm z (by simp [hz])) (hp'.1 z hz)
    exact key B (fun _ h=>h) hB.pw
theorem lins_span (hB:LRed n B) (h:NewRow n B w) (u:Vc α):LSpan (lins (lpiv w) w B) u↔LSpan (w :: B) u:=by
  constructor
  · refine LSpan.mono fun y hy=>?_
    rcases qp9 hy with rfl|⟨x,hx,rfl⟩
    · exact LSpan.mem (by simp)
    · rw [qgn (by rw [(hB.row x hx).1,h.len])]
      exact Span.add (LSpan.mem (by simp [hx])) (Span.smul _ (LSpan.mem (by simp)))
  · refine LSpan.mono fun y hy=>?_
    obtain⟨q1,q2⟩:=lins_has (p:=lpiv w) (w:=w) B
    rcases List.mem_cons.1 hy with rfl|hx
    · exact LSpan.mem q1
    · have h1:=LSpan.mem (q2 y hx)
      rw [qgn (by rw [(hB.row y hx).1,h.len])] at h1
      have h2:LSpan (lins (lpiv w) w B) (va (va (toV y) (vs (neg (y.getD (lpiv w) zero)) (toV w))) (vs (neg Fl.one) (vs (neg (y.getD (lpiv w) zero)) (toV w)))):=Span.add h1 (Span.smul _ (Span.smul _ (LSpan.mem q1)))
      rw [qg3,vneg,qc3] at h2
      exact h2
end
theorem lput_ok {n:Nat} {B:List (List α)} {v:List α} (hB:LRed n B) (hv:v.length=n):LRed n (lput B v)∧∀ u,LSpan (lput B v) u↔LSpan (v :: B) u:=by
  have hl:=hB.piv.1
  have hwl:=qg9 hl hv
  obtain⟨s,hs1,hs2⟩:=qnb hl hv B.length (Nat.le_refl _)
  have hz:=qm9 hB hv B.length (Nat.le_refl _)
  change toV (lclr B v)=_ at hs2
  change ∀ i,i<B.length→toV (lclr B v) _=zero at hz
  have hsv:LSpan B (vs (neg Fl.one) s):=Span.smul _ hs1
  have hback:toV v=va (toV (lclr B v)) (vs (neg Fl.one) s):=by
    rw [hs2,qg3,vneg,qc3]
  have inB:∀ {u},LSpan B u→LSpan (v :: B) u:=fun hu=>hu.mono fun x hx=>LSpan.mem (by simp [hx])
  unfold lput
  simp only
  by_cases h0:lpiv (lclr B v)=(lclr B v).length
  · rw [if_pos h0]
    refine⟨hB,fun u=>⟨inB,fun hu=>hu.mono fun y hy=>?_⟩⟩
    rcases List.mem_cons.1 hy with rfl|hx
    · have hw0:toV (lclr B y)=vz:=by
        funext j
        by_cases hj:j<(lclr B y).length
        · exact qcv _ _ (by omega)
        · exact qft (by omega)
      rw [hback,hw0,qj3]
      exact hsv
    · exact LSpan.mem hx
  · rw [if_neg h0,lputF_lins]
    have hlt:lpiv (lclr B v)<(lclr B v).length:=by have:=lpiv_le (lclr B v);omega
    have hne:=qm4 _ hlt
    generalize hW:lclr B v=W at *
    have hN:toV (qpx W)=vs (inv (W.getD (lpiv W) zero)) (toV W):=by
      unfold qpx
      rw [qgn (by simp),toV_zero,qj3]
    have hNl:=lnorm_length W
    have hat:∀ j,(qpx W).getD j zero=mul (inv (W.getD (lpiv W) zero)) (W.getD j zero):=fun j=>congrFun hN j
    have hone:(qpx W).getD (lpiv W) zero=Fl.one:=by rw [hat,mul_comm,mul_inv _ hne]
    have hpv:lpiv (qpx W)=lpiv W:=lpiv_eq (by omega) (fun j hj=>by rw [hat,qcv W j hj,Fl.mul_zero]) (by rw [hone];exact one_ne)
    have hnew:NewRow n B (qpx W):=by
      refine⟨by omega,by omega,by rw [hpv];exact hone,fun x hx=>?_⟩
      obtain⟨i,hi,rfl⟩:=List.mem_iff_getElem.1 hx
      have:=hz i hi
      rw [qcb hi] at this
      rw [hat,show W.getD (lpiv B[i]) zero=zero from this,Fl.mul_zero]
    rw [←hpv]
    refine⟨lins_red hB hnew,fun u=>(lins_span hB hnew u).trans ⟨fun hu=>hu.mono fun y hy=>?_,fun hu=>hu.mono fun y hy=>?_⟩⟩
    · rcases List.mem_cons.1 hy with rfl|hx
      · rw [hN,hs2]
        exact Span.smul _ (Span.add (LSpan.mem (by simp)) (inB hs1))
      · exact LSpan.mem (by simp [hx])
    · rcases List.mem_cons.1 hy with rfl|hx
      · rw [hback]
        refine Span.add ?_ (hsv.mono fun x hx=>LSpan.mem (by simp [hx]))
        have h1:LSpan (qpx W :: B) (vs (W.getD (lpiv W) zero) (toV (qpx W))):=Span.smul _ (LSpan.mem (by simp))
        rw [hN,vs_vs,mul_inv _ hne,vs_one] at h1
        exact h1
      · exact LSpan.mem (by simp [hx])
theorem lput_len (B:List (List α)) (v:List α):(lput B v).length≤B.length+1:=by
  unfold lput
  simp only
  split
  · omega
  · unfold lputF
    have h:=qrd (pv:=lpiv (lclr B v)) (w:=qpx (lclr B v)) B ([],false)
    simp only
    split
    · have:=h.1;simp at this;exact this
    · rename_i hs
      have:=h.2.2 (by simpa using hs)
      simp at this;simp [this]
theorem lreduce_ok {n:Nat}:∀ (rows B:List (List α)),LRed n B→(∀ x∈rows,x.length=n)→LRed n (rows.foldl lput B)∧(∀ u,LSpan (rows.foldl lput B) u↔LSpan (B++rows) u)∧(rows.foldl lput B).length≤B.length+rows.length
  | [],B,hB,_=>by simp [hB]
  | v :: rows,B,hB,hl=>by
    obtain⟨h1,h2⟩:=lput_ok hB (hl v (by simp))
    obtain⟨q1,q2,q3⟩:=lreduce_ok rows (lput B v) h1 (fun x hx=>hl x (by simp [hx]))
    refine⟨q1,fun u=>(q2 u).trans ⟨fun hu=>hu.mono fun x hx=>?_,fun hu=>hu.mono fun x hx=>?_⟩,?_⟩
    · rcases List.mem_append.1 hx with hx|hx
      · refine LSpan.mono (fun y hy=>?_) ((h2 _).1 (LSpan.mem hx))
        rcases List.mem_cons.1 hy with rfl|hy
        · exact LSpan.mem (by simp)
        · exact LSpan.mem (by simp [hy])
      · exact LSpan.mem (by simp [hx])
    · have key:∀ y,LSpan (lput B v) (toV y)→LSpan (lput B v++rows) (toV y):=fun y hy=>hy.mono fun z hz=>LSpan.mem (by simp [hz])
      rcases List.mem_append.1 hx with hx|hx
      · exact key x ((h2 _).2 (LSpan.mem (by simp [hx])))
      · rcases List.mem_cons.1 hx with rfl|hx
        · exact key x ((h2 _).2 (LSpan.mem (by simp)))
        · exact LSpan.mem (by simp [hx])
    · have:=lput_len B v
      simp only [List.foldl_cons,List.length_cons]
      omega
theorem qbz {n:Nat} {rows:List (List α)} (hl:∀ x∈rows,x.length=n):LRed n (qbk rows)∧(∀ u,LSpan (qbk rows) u↔LSpan rows u)∧(qbk rows).length≤rows.length:=by
  have:=lreduce_ok rows [] (LRed.nil n) hl
  simpa [qbk] using this
end
end Go.Sim

namespace Go.Sim
open Go Go.Proofs
section
variable {α:Type} [Fl α] [DecidableEq α] {cd:α→Nat} {p e b c q:Nat} {blk:AB} {H:AH}
def lhas (rows:List (List α)) (v:List α):Bool:=decide (lpiv (lclr (qbk rows) v)=v.length)
def laug (n:Nat) (rows:List (List α)):List (List α):=(List.range n).map fun j=>rows.map (fun r=>r.getD j Fl.zero)++qdg n j
def qcn (n:Nat) (rows:List (List α)):List (List α):=((qbk (laug n rows)).filter fun l=>decide (rows.length≤lpiv l)).map fun l=>l.drop rows.length
theorem laug_len {n m:Nat} {rows:List (List α)} (hm:rows.length=m):∀ x∈laug n rows,x.length=m+n:=by
  intro x hx
  obtain⟨j,_,rfl⟩:=List.mem_map.1 hx
  simp [qdg,hm]
end
end Go.Sim

namespace Go.Sim
open Go Go.Proofs
section
variable {α:Type} [Fl α] [DecidableEq α] {cd:α→Nat} {p e b c q:Nat} {blk:AB} {H:AH}
abbrev rsl (n bl:Nat):Value:=.slice (some ⟨bl,0,none⟩) n n
structure Mat (cd:α→Nat) (p e b c n:Nat) (mb sb:Nat) (bs:List Nat) (H:AH) (M:List (List α)):Prop where
  var:H[mb]? = some (.cells [nv p,nv e,.slice (some ⟨b,0,none⟩) e c,.slice (some ⟨sb,0,none⟩) bs.length bs.length] 193 none false)
  spine:∃ op,H[sb]? = some (.cells (bs.map (rsl n)) 31 op false)
  len:bs.length=M.length
  row:∀ i,i<M.length→H[bs.getD i 0]? = some (.cells (evs cd (M.getD i [])) 3 none false)
  width:∀ x∈M,x.length=n
  nd:(mb :: sb :: bs).Nodup
theorem Mat.keep {n mb sb:Nat} {bs:List Nat} {H H':AH} {M:List (List α)} (h:Mat cd p e b c n mb sb bs H M) (hk:∀ x∈mb :: sb :: bs,H'[x]? = H[x]?):Mat cd p e b c n mb sb bs H' M:=by
  obtain⟨op,ho⟩:=h.spine
  refine⟨by rw [hk mb (by simp)];exact h.var,⟨op,by rw [hk sb (by simp)];exact ho⟩,h.len,fun i hi=>?_,h.width,h.nd⟩
  rw [hk _ (List.mem_cons_of_mem _ (List.mem_cons_of_mem _ (getD_mem (by rw [h.len];exact hi))))]
  exact h.row i hi
theorem qgs {l:List Nat} (h:l.Nodup) {i j:Nat} (hi:i<l.length) (hj:j<l.length) (hne:i≠j):l.getD i 0≠l.getD j 0:=by
  simp only [List.getD_eq_getElem?_getD,List.getElem?_eq_getElem hi,List.getElem?_eq_getElem hj,Option.getD_some]
  intro he
  exact hne ((List.getElem_inj h).1 he)
theorem Mat.setRow {n mb sb:Nat} {bs:List Nat} {M:List (List α)} (h:Mat cd p e b c n mb sb bs H M) {i:Nat} (hi:i<M.length) {x:List α} (hx:x.length=n):Mat cd p e b c n mb sb bs (H.set (bs.getD i 0) (.cells (evs cd x) 3 none false)) (M.set i x):=by
  obtain⟨op,ho⟩:=h.spine
  have hb:=getD_mem (d:=0) (show i<bs.length by rw [h.len];exact hi)
  have hnd:=h.nd
  simp only [List.nodup_cons,List.mem_cons,not_or] at hnd
  obtain⟨⟨n1,n2⟩,n3,n4⟩:=hnd
  have hm:bs.getD i 0≠mb:=fun e=>n2 (e ▸ hb)
  have hs:bs.getD i 0≠sb:=fun e=>n3 (e ▸ hb)
  refine⟨by rw [List.getElem?_set_ne hm];exact h.var,⟨op,by rw [List.getElem?_set_ne hs];exact ho⟩,by simp [h.len],fun k hk=>?_,fun y hy=>?_,h.nd⟩
  · simp only [List.length_set] at hk
    by_cases hki:i=k
    · subst hki
      rw [List.getElem?_set_self (qbx (h.row i hi))]
      simp [List.getD_eq_getElem?_getD,List.getElem?_set_self hi]
    · rw [List.getElem?_set_ne (qgs n4 (by rw [h.len];exact hi) (by rw [h.len];exact hk) hki),h.row k hk]
      simp [List.getD_eq_getElem?_getD,List.getElem?_set_ne hki]
  · rcases List.mem_or_eq_of_mem_set hy with hy|rfl
    · exact h.width _ hy
    · exact hx
theorem st_ev {bl k:Nat} {xs:List α} {x:α} {t:TypeId} {op:Option Nat} (h:H[bl]? = some (.cells (evs cd xs) t op false)) (hk:k<xs.length):xact (.st 1) H [.pointer (some ⟨bl,k,none⟩),nv (cd x)]=some (undef,H.set bl (.cells (evs cd (xs.set k x)) t op false)):=by
  unfold xact
  simp only [h]
  rw [if_pos ⟨rfl,rfl,by simp;omega⟩]
  simp [putL,evs,List.map_set,qbq]
theorem ld_ev {bl k:Nat} {xs:List α} {t:TypeId} {op:Option Nat} {r:Bool} (h:H[bl]? = some (.cells (evs cd xs) t op r)) (hk:k<xs.length):qbd none H [.pointer (some ⟨bl,k,none⟩)]=some (nv (cd (xs.getD k Fl.zero))):=by
  rw [qpz h]
  simp [qdw,evs,List.getD_eq_getElem?_getD,List.getElem?_eq_getElem hk]
theorem ld_sp {bl k n:Nat} {bs:List Nat} {t:TypeId} {op:Option Nat} {r:Bool} (h:H[bl]? = some (.cells (bs.map (rsl n)) t op r)) (hk:k<bs.length):qbd none H [.pointer (some ⟨bl,k,none⟩)]=some (rsl n (bs.getD k 0)):=by
  rw [qpz h]
  simp [qdw,List.getD_eq_getElem?_getD,List.getElem?_eq_getElem hk]
theorem set_same {H:AH} {b:Nat} {x:AB} (h:H[b]? = some x):H.set b x=H:=by
  refine List.ext_getElem? fun k=>?_
  by_cases hk:b=k
  · subst hk;rw [List.getElem?_set_self (qbx h),h]
  · rw [List.getElem?_set_ne hk]
theorem qm1 {β:Type} (d:β):∀ (xs zs:List β) (k:Nat),xs.length=zs.length→k<xs.length→(zs.take k++xs.drop k).set k (zs.getD k d)=zs.take (k+1)++xs.drop (k+1)
  | [],_,k,_,h=>by simp at h
  | _ :: _,[],_,h,_=>by simp at h
  | x :: l,z :: m,0,_,_=>by simp
  | x :: l,z :: m,k+1,h,hk=>by simpa using qm1 d l m k (by simpa using h) (by simpa using hk)
theorem qj4 {β:Type} (d:β):∀ (xs zs:List β) (k:Nat),xs.length=zs.length→(zs.take k++xs.drop k).getD k d=xs.getD k d
  | [],zs,k,h=>by
    have:zs=[]:=List.eq_nil_of_length_eq_zero h.symm
    subst this;simp
  | _ :: _,[],_,h=>by simp at h
  | x :: l,z :: m,0,_=>by simp
  | x :: l,z :: m,k+1,h=>by simpa using qj4 d l m k (by simpa using h)
theorem scale_c (F:FOK α cd p e b c q blk) {n mb sb:Nat} {bs:List Nat} {M:List (List α)} {a:α} (hb:H[b]? = some blk) (hbn:b∉mb :: sb :: bs) (h:Mat cd p e b c n mb sb bs H M) {i:Nat} (hi:i<M.length) (hn:n≤1000) (hM:M.length≤1000) :
    FN Tryz.prog 219 [.pointer (some ⟨mb,0,none⟩),nv i,nv (cd a)] H (fun r H'=>r=.tuple [].toArray∧H'=H.set (bs.getD i 0) (.cells (evs cd ((M.getD i []).map (Fl.mul a))) 3 none false)):=by
  refine g219_of ?_
  unfold g219
  obtain⟨op,ho⟩:=h.spine
  have hib:i<bs.length:=by rw [h.len];exact hi
  have hbi:=getD_mem (d:=0) hib
  have hnd:=h.nd
  simp only [List.nodup_cons,List.mem_cons,not_or] at hnd hbn
  obtain⟨⟨n1,n2⟩,n3,n4⟩:=hnd
  have hm:bs.getD i 0≠mb:=fun e=>n2 (e ▸ hbi)
  have hs:bs.getD i 0≠sb:=fun e=>n3 (e ▸ hbi)
  have hf:bs.getD i 0≠b:=fun e=>hbn.2.2 (e ▸ hbi)
  have hr:=h.row i hi
  have hw:=qb5 h.width hi
  have v0:=h.var
  have l0:=ld_sp ho hib
  have gm:=fun x=>(List.getElem?_set_ne (l:=H) (a:=x) hm).trans v0
  have gs:=fun x=>(List.getElem?_set_ne (l:=H) (a:=x) hs).trans ho
  have gf:=fun x=>(List.getElem?_set_ne (l:=H) (a:=x) hf).trans hb
  have gr:=fun x=>List.getElem?_set_self (l:=H) (a:=x) (qbx hr)
  have ls:=fun x=>ld_sp (gs x) hib
  generalize hMi:M.getD i []=xs at *
  generalize bs.getD i 0=bi at *
  have hz:((xs.map (Fl.mul a)).take 0++xs.drop 0)=xs:=by simp
  have hH:H.set bi (.cells (evs cd ((xs.map (Fl.mul a)).take 0++xs.drop 0)) 3 none false)=H:=set_same (by rw [hz];exact hr)
  simp (disch:=(first|omega|(simp only [qbj]<;>omega)|(simp only [qbg];done)|rfl)) only [zA,zB,zC,zD,zF,zG,zH,Nat.reduceEqDiff,Nat.reduceLT,Nat.reduceLeDiff,↓reduceIte,v0,hib,l0]
  refine loopV1.nat n (fun k j H'=>j=nv k∧H'=H.set bi (.cells (evs cd ((xs.map (Fl.mul a)).take k++xs.drop k)) 3 none false)) ⟨rfl,hH.symm⟩ ?_ ?_
  · rintro k j _ hk ⟨rfl,rfl⟩ J hJ
    have hlen:((xs.map (Fl.mul a)).take k++xs.drop k).length=n:=by simp;omega
    have hg:=gr (.cells (evs cd ((xs.map (Fl.mul a)).take k++xs.drop k)) 3 none false)
    have e1:=ld_ev hg (by omega:k<_)
    rw [qj4 Fl.zero xs _ k (by simp)] at e1
    have e3:=qm1 Fl.zero xs (xs.map (Fl.mul a)) k (by simp) (by omega)
    have e5:(xs.map (Fl.mul a)).getD k Fl.zero=Fl.mul a (xs.getD k Fl.zero):=by simp [List.getD_eq_getElem?_getD,List.getElem?_eq_getElem (show k<xs.length by omega)]
    have e4:=st_ev (cd:=cd) (x:=Fl.mul a (xs.getD k Fl.zero)) hg (by omega:k<_)
    rw [←e5,e3,List.set_set,e5] at e4
    simp (disch:=(first|omega|(simp only [qbj]<;>omega)|(simp only [qbg];done)|rfl)) only [zA,zB,zC,zD,zF,zG,zH,Nat.reduceEqDiff,Nat.reduceLT,Nat.reduceLeDiff,↓reduceIte,hk,e1,gm,ls]
    refine FZ.use (F.mul _ _ _ (gf _)) ?_
    simp (disch:=(first|omega|(simp only [qbj]<;>omega)|(simp only [qbg];done)|rfl)) only [zA,zB,zC,zD,zF,zG,zH,Nat.reduceEqDiff,Nat.reduceLT,Nat.reduceLeDiff,↓reduceIte,gm,ls,hib,hk,e4]
    exact hJ _ _ ⟨rfl,rfl⟩
  · rintro j _ ⟨rfl,rfl⟩ J
    simp (disch:=(first|omega|(simp only [qbj]<;>omega)|(simp only [qbg];done)|rfl)) only [zA,zB,zC,zD,zF,zG,zH,Nat.reduceEqDiff,Nat.reduceLT,Nat.reduceLeDiff,↓reduceIte]
    rw [List.take_of_length_le (by simp;omega),List.drop_of_length_le (by omega),List.append_nil]
def lsub (xs:List α) (a:α) (ys:List α):List α:=List.zipWith (fun x y=>Fl.add x (Fl.neg (Fl.mul a y))) xs ys
theorem qrm:Fl.neg (Fl.zero:α)=Fl.zero:=by have:=Fl.add_neg (Fl.zero:α);rwa [Fl.zero_add] at this
theorem lsub_zero {xs ys:List α} (h:xs.length=ys.length):lsub xs Fl.zero ys=xs:=by
  refine List.ext_getElem (by simp [lsub,h]) fun k h1 h2=>?_
  simp [lsub,Fl.zero_mul,qrm,Fl.add_zero]
theorem lsub_get {xs ys:List α} {a:α} {k:Nat} (h1:k<xs.length) (h2:k<ys.length):(lsub xs a ys).getD k Fl.zero=Fl.add (xs.getD k Fl.zero) (Fl.neg (Fl.mul a (ys.getD k Fl.zero))):=by
  simp [lsub,List.getD_eq_getElem?_getD,List.getElem?_zipWith,List.getElem?_eq_getElem h1,List.getElem?_eq_getElem h2]
theorem subtract_c (F:FOK α cd p e b c q blk) {n mb sb:Nat} {bs:List Nat} {M:List (List α)} {a:α} (hb:H[b]? = some blk) (hbn:b∉mb :: sb :: bs) (h:Mat cd p e b c n mb sb bs H M) {i j:Nat} (hi:i<M.length) (hj:j<M.length) (hij:i≠j) (hn:n≤1000) :
    FN Tryz.prog 220 [.pointer (some ⟨mb,0,none⟩),nv i,nv (cd a),nv j] H (fun r H'=>r=.tuple [].toArray∧H'=H.set (bs.getD i 0) (.cells (evs cd (lsub (M.getD i []) a (M.getD j []))) 3 none false)):=by
  refine g220_of ?_
  unfold g220
  obtain⟨op,ho⟩:=h.spine
  have hib:i<bs.length:=by rw [h.len];exact hi
  have hjb:j<bs.length:=by rw [h.len];exact hj
  have hbi:=getD_mem (d:=0) hib
  have hnd:=h.nd
  simp only [List.nodup_cons,List.mem_cons,not_or] at hnd hbn
  obtain⟨⟨n1,n2⟩,n3,n4⟩:=hnd
  have hm:bs.getD i 0≠mb:=fun e=>n2 (e ▸ hbi)
  have hs:bs.getD i 0≠sb:=fun e=>n3 (e ▸ hbi)
  have hf:bs.getD i 0≠b:=fun e=>hbn.2.2 (e ▸ hbi)
  have hbj:bs.getD i 0≠bs.getD j 0:=qgs n4 hib hjb hij
  have hr:=h.row i hi
  have hrj:=h.row j hj
  have hw:=qb5 h.width hi
  have hwj:=qb5 h.width hj
  have v0:=h.var
  have l0:=ld_sp ho hjb
  have gm:=fun x=>(List.getElem?_set_ne (l:=H) (a:=x) hm).trans v0
  have gs:=fun x=>(List.getElem?_set_ne (l:=H) (a:=x) hs).trans ho
  have gf:=fun x=>(List.getElem?_set_ne (l:=H) (a:=x) hf).trans hb
  have gj:=fun x=>(List.getElem?_set_ne (l:=H) (a:=x) hbj).trans hrj
  have gr:=fun x=>List.getElem?_set_self (l:=H) (a:=x) (qbx hr)
  have ls:=fun x=>ld_sp (gs x) hib
  generalize hMi:M.getD i []=xs at *
  generalize hMj:M.getD j []=ys at *
  generalize bs.getD i 0=bi at *
  generalize bs.getD j 0=bj at *
  by_cases ha:a=Fl.zero
  · subst ha
    have h0:=F.zero
    simp (disch:=(first|omega|(simp only [qbj]<;>omega)|(simp only [qbg];done)|rfl)) only [zA,zB,zC,zD,zF,zG,zH,Nat.reduceEqDiff,Nat.reduceLT,Nat.reduceLeDiff,↓reduceIte,h0]
    rw [lsub_zero (by omega)]
    exact (set_same hr).symm
  · have h0:¬cd a=0:=fun h=>ha ((F.eq0 a).1 h)
    have hzl:(lsub xs a ys).length=n:=by simp [lsub];omega
    have hz:((lsub xs a ys).take 0++xs.drop 0)=xs:=by simp
    have hH:H.set bi (.cells (evs cd ((lsub xs a ys).take 0++xs.drop 0)) 3 none false)=H:=set_same (by rw [hz];exact hr)
    simp (disch:=(first|omega|(simp only [qbj]<;>omega)|(simp only [qbg];done)|rfl)) only [zA,zB,zC,zD,zF,zG,zH,Nat.reduceEqDiff,Nat.reduceLT,Nat.reduceLeDiff,↓reduceIte,h0,v0,hjb,l0]
    refine loopV1.nat n (fun k j H'=>j=nv k∧H'=H.set bi (.cells (evs cd ((lsub xs a ys).take k++xs.drop k)) 3 none false)) ⟨rfl,hH.symm⟩ ?_ ?_
    · rintro k j _ hk ⟨rfl,rfl⟩ J hJ
      have hlen:((lsub xs a ys).take k++xs.drop k).length=n:=by simp;omega
      have hg:=gr (.cells (evs cd ((lsub xs a ys).take k++xs.drop k)) 3 none false)
      have e1:=ld_ev hg (by omega:k<_)
      rw [qj4 Fl.zero xs _ k (by omega)] at e1
      have ej:=fun x=>ld_ev (gj x) (by omega:k<_)
      have e3:=qm1 Fl.zero xs (lsub xs a ys) k (by omega) (by omega)
      rw [lsub_get (by omega) (by omega)] at e3
      by_cases hy:ys.getD k Fl.zero=Fl.zero
      · have hy0:cd (ys.getD k Fl.zero)=0:=by rw [hy];exact F.zero
        simp (disch:=(first|omega|(simp only [qbj]<;>omega)|(simp only [qbg];done)|rfl)) only [zA,zB,zC,zD,zF,zG,zH,Nat.reduceEqDiff,Nat.reduceLT,Nat.reduceLeDiff,↓reduceIte,hk,ej,hy0]
        refine hJ _ _ ⟨rfl,?_⟩
        rw [←e3,hy,Fl.mul_zero,qrm,Fl.add_zero]
        have:((lsub xs a ys).take k++xs.drop k).set k (xs.getD k Fl.zero)=(lsub xs a ys).take k++xs.drop k:=by
          rw [←qj4 Fl.zero xs (lsub xs a ys) k (by omega)]
          refine List.ext_getElem (by simp) fun l h1 h2=>?_
          by_cases hlk:k=l
          · subst hlk;simp [List.getD_eq_getElem?_getD,List.getElem?_eq_getElem h2]
          · simp [List.getElem_set_ne hlk]
        rw [this]
      · have hy0:¬cd (ys.getD k Fl.zero)=0:=fun h=>hy ((F.eq0 _).1 h)
        have e4:=st_ev (cd:=cd) (x:=Fl.add (xs.getD k Fl.zero) (Fl.neg (Fl.mul a (ys.getD k Fl.zero)))) hg (by omega:k<_)
        rw [e3,List.set_set] at e4
        simp (disch:=(first|omega|(simp only [qbj]<;>omega)|(simp only [qbg];done)|rfl)) only [zA,zB,zC,zD,zF,zG,zH,Nat.reduceEqDiff,Nat.reduceLT,Nat.reduceLeDiff,↓reduceIte,hk,ej,hy0,gm,ls,hib,e1]
        refine FZ.use (F.mul _ _ _ (gf _)) ?_
        simp (disch:=(first|omega|(simp only [qbj]<;>omega)|(simp only [qbg];done)|rfl)) only [zA,zB,zC,zD,zF,zG,zH,Nat.reduceEqDiff,Nat.reduceLT,Nat.reduceLeDiff,↓reduceIte,gm,ls,hib,hk,e1]
        refine FZ.use (F.sub _ _ _ (gf _)) ?_
        simp (disch:=(first|omega|(simp only [qbj]<;>omega)|(simp only [qbg];done)|rfl)) only [zA,zB,zC,zD,zF,zG,zH,Nat.reduceEqDiff,Nat.reduceLT,Nat.reduceLeDiff,↓reduceIte,gm,ls,hib,hk,e4]
        exact hJ _ _ ⟨rfl,rfl⟩
    · rintro j _ ⟨rfl,rfl⟩ J
      simp (disch:=(first|omega|(simp only [qbj]<;>omega)|(simp only [qbg];done)|rfl)) only [zA,zB,zC,zD,zF,zG,zH,Nat.reduceEqDiff,Nat.reduceLT,Nat.reduceLeDiff,↓reduceIte]
      rw [List.take_of_length_le (by omega),List.drop_of_length_le (by omega),List.append_nil]
end
end Go.Sim

namespace Go.Sim
section
variable {α:Type} [Fl α] [DecidableEq α]
open Fl
def ent (M:List (List α)) (k j:Nat):α:=(M.getD k []).getD j zero
structure RedTo (n col:Nat) (M:List (List α)) (P:List Nat):Prop where
  len:P.length≤M.length
  width:∀ x∈M,x.length=n
  lt:∀ i,i<P.length→P.getD i 0<col
  inc:∀ i j,i<j→j<P.length→P.getD i 0<P.getD j 0
  one:∀ i,i<P.length→ent M i (P.getD i 0)=Fl.one
  alone:∀ i k,i<P.length→k<M.length→k≠i→ent M k (P.getD i 0)=zero
  lead:∀ i j,i<P.length→j<P.getD i 0→ent M i j=zero
  zero:∀ k j,P.length≤k→k<M.length→j<col→ent M k j=zero
theorem RedTo.start {n:Nat} {M:List (List α)} (h:∀ x∈M,x.length=n):RedTo n 0 M []:=
  ⟨by simp,h,by simp,by simp,by simp,by simp,by simp,fun _ _ _ _ h=>by omega⟩
theorem RedTo.skip {n col:Nat} {M:List (List α)} {P:List Nat} (h:RedTo n col M P) (h0:∀ k,P.length≤k→k<M.length→ent M k col=Fl.zero):RedTo n (col+1) M P:=
  ⟨h.len,h.width,fun i hi=>by have:=h.lt i hi;omega,h.inc,h.one,h.alone,h.lead,fun k j hk hm hj=>by
    by_cases hjc:j=col
    · subst hjc;exact h0 k hk hm
    · exact h.zero k j hk hm (by omega)⟩
theorem getD_set {β:Type} {l:List β} {i k:Nat} {x d:β} (hi:i<l.length):(l.set i x).getD k d=if k=i then x else l.getD k d:=by
  simp only [List.getD_eq_getElem?_getD]
  by_cases h:k=i
  · subst h;rw [if_pos rfl,List.getElem?_set_self hi];rfl
  · rw [if_neg h,List.getElem?_set_ne (Ne.symm h)]
theorem qf1 {β:Type} {l:List β} {x d:β} {k:Nat}:(l++[x]).getD k d=if k<l.length then l.getD k d else if k=l.length then x else d:=by
  simp only [List.getD_eq_getElem?_getD]
  by_cases h:k<l.length
  · rw [if_pos h,List.getElem?_append_left h]
  · rw [if_neg h,List.getElem?_append_right (by omega)]
    by_cases h2:k=l.length
    · subst h2;simp
    · rw [if_neg h2,List.getElem?_eq_none (by simp;omega)];rfl
def qh1 (r col:Nat) (M:List (List α)):List (List α):=(List.range M.length).map fun k=>if k=r then M.getD r [] else lsub (M.getD k []) (ent M k col) (M.getD r [])
theorem qcm (r col:Nat) (M:List (List α)):(qh1 r col M).length=M.length:=by simp [qh1]
theorem qfr {r col:Nat} {M:List (List α)} {k:Nat} (hk:k<M.length):(qh1 r col M).getD k []=if k=r then M.getD r [] else lsub (M.getD k []) (ent M k col) (M.getD r []):=by
  simp [qh1,List.getD_eq_getElem?_getD,List.getElem?_eq_getElem (show k<(List.range M.length).length by simpa using hk)]
def qdm (r i col:Nat) (M:List (List α)):List (List α):=((M.set i (M.getD r [])).set r (M.getD i [])).set r ((M.getD i []).map (mul (inv (ent M i col))))
theorem qj7 {xs ys:List α} {a:α} (h:xs.length=ys.length):(lsub xs a ys).length=xs.length:=by simp [lsub,h]
theorem toV_lsub {xs ys:List α} {a:α} (h:xs.length=ys.length):toV (lsub xs a ys)=va (toV xs) (vs (neg Fl.one) (vs a (toV ys))):=by
  funext j
  by_cases hj:j<xs.length
  · show (lsub xs a ys).getD j Fl.zero=add (toV xs j) (mul (neg Fl.one) (mul a (toV ys j)))
    rw [lsub_get hj (by omega)]
    have h1:=vneg (fun _:Nat=>mul a (toV ys j))
    have h2:=congrFun h1 0
    simp only [va,vs,vz] at h2
    have h3:=add_neg (mul a (toV ys j))
    have:=Fl.add_left_cancel (h3.trans h2.symm)
    rw [←this];rfl
  · rw [qft (by rw [qj7 h];omega)]
    show zero=add (toV xs j) (mul (neg Fl.one) (mul a (toV ys j)))
    rw [qft (xs:=xs) (by omega),qft (xs:=ys) (by omega),Fl.mul_zero,Fl.mul_zero,add_zero]
theorem qqz {xs:List α} {a:α}:toV (xs.map (mul a))=vs a (toV xs):=by
  funext j
  simp only [toV,vs,List.getD_eq_getElem?_getD,List.getElem?_map]
  cases xs[j]? with
  | none=>simp [Fl.mul_zero]
  | some x=>rfl
section
variable {n col r i:Nat} {M:List (List α)} {P:List Nat}
theorem qdz:(qdm r i col M).length=M.length:=by simp [qdm]
theorem qkb (hr:r<M.length) (hi:i<M.length) {k:Nat}:(qdm r i col M).getD k []=if k=r then (M.getD i []).map (mul (inv (ent M i col))) else if k=i then M.getD r [] else M.getD k []:=by
  unfold qdm
  rw [getD_set (by simpa using hr)]
  by_cases hk:k=r
  · rw [if_pos hk,if_pos hk]
  · rw [if_neg hk,if_neg hk,getD_set (by simpa using hr),if_neg hk,getD_set hi]
theorem qh0 (h:∀ x∈M,x.length=n) (hr:r<M.length) (hi:i<M.length) {k:Nat} (hk:k<M.length):((qdm r i col M).getD k []).length=n:=by
  rw [qkb hr hi]
  split
  · rw [List.length_map,qb5 h hi]
  · split
    · exact qb5 h hr
    · exact qb5 h hk
theorem RedTo.step (h:RedTo n col M P) (hi:i<M.length) (hri:P.length≤i) (hne:ent M i col≠Fl.zero):RedTo n (col+1) (qh1 P.length col (qdm P.length i col M)) (P++[col]):=by
  have hr:P.length<M.length:=by omega
  generalize hN:qdm P.length i col M=N
  have hNl:N.length=M.length:=by rw [←hN,qdz]
  have hNg:∀ k,N.getD k []=if k=P.length then (M.getD i []).map (mul (inv (ent M i col))) else if k=i then M.getD P.length [] else M.getD k []:=fun k=>by rw [←hN];exact qkb hr hi
  have hNw:∀ k,k<M.length→(N.getD k []).length=n:=fun k hk=>by rw [←hN];exact qh0 h.width hr hi hk
  have eN:∀ k j,ent N k j=if k=P.length then mul (inv (ent M i col)) (ent M i j) else if k=i then ent M P.length j else ent M k j:=by
    intro k j
    unfold ent
    rw [hNg]
    split
    · exact congrFun (qqz (xs:=M.getD i []) (a:=inv (ent M i col))) j
    · split<;>rfl
  have e:∀ k j,k<M.length→ent (qh1 P.length col N) k j=if k=P.length then mul (inv (ent M i col)) (ent M i j) else add (ent N k j) (mul (neg Fl.one) (mul (ent N k col) (mul (inv (ent M i col)) (ent M i j)))):=by
    intro k j hk
    unfold ent
    rw [qfr (by rw [hNl];exact hk)]
    split
    · have:=eN P.length j
      rw [if_pos rfl] at this
      exact this
    · have h2:=congrFun (toV_lsub (xs:=N.getD k []) (ys:=N.getD P.length []) (a:=ent N k col) (by rw [hNw k hk,hNw _ hr])) j
      have h3:=eN P.length j
      rw [if_pos rfl] at h3
      refine h2.trans ?_
      show add (ent N k j) (mul (neg Fl.one) (mul (ent N k col) (ent N P.length j)))=_
      rw [h3];rfl
  have low:∀ k j,k<M.length→j<col→ent (qh1 P.length col N) k j=if k=P.length then Fl.zero else ent N k j:=by
    intro k j hk hj
    have h0:ent M i j=Fl.zero:=h.zero i j hri hi hj
    rw [e k j hk,h0,Fl.mul_zero,Fl.mul_zero,Fl.mul_zero,add_zero]
  have atc:∀ k,k<M.length→ent (qh1 P.length col N) k col=if k=P.length then Fl.one else Fl.zero:=by
    intro k hk
    rw [e k col hk,mul_comm (inv _) (ent M i col),mul_inv _ hne]
    split
    · rfl
    · rw [mul_one]
      exact congrFun (vneg (fun _:Nat=>ent N k col)) 0
  have lowN:∀ k j,k≠P.length→j<col→ent N k j=if k=i then Fl.zero else ent M k j:=by
    intro k j hk hj
    rw [eN,if_neg hk]
    split
    · exact h.zero _ _ (Nat.le_refl _) hr hj
    · rfl
  have hlen:(P++[col]).length=P.length+1:=by simp
  refine⟨by rw [qcm,hNl,hlen];omega,fun x hx=>?_,fun a ha=>?_,fun a b hab hb=>?_,fun a ha=>?_,fun a k ha hk hka=>?_,fun a j ha hj=>?_,fun k j hk hkm hj=>?_⟩
  · obtain⟨k,hk,rfl⟩:=List.mem_iff_getElem.1 hx
    rw [qcm,hNl] at hk
    have:=qfr (r:=P.length) (col:=col) (M:=N) (k:=k) (by rw [hNl];exact hk)
    rw [qcb (by rw [qcm,hNl];exact hk)] at this
    rw [this]
    split
    · exact hNw _ hr
    · rw [qj7 (by rw [hNw k hk,hNw _ hr]),hNw k hk]
  · rw [qf1]
    split
    · rename_i hlt;have:=h.lt a hlt;omega
    · rw [if_pos (by omega)];omega
  · rw [qf1,qf1,if_pos (by omega)]
    split
    · rename_i hlt;exact h.inc a b hab hlt
    · rw [if_pos (by omega)];exact h.lt a (by omega)
  · rw [qf1]
    split
    · rename_i hlt
      have hc:=h.lt a hlt
      rw [low a _ (by omega) hc,if_neg (by omega),lowN a _ (by omega) hc,if_neg (by omega)]
      exact h.one a hlt
    · rw [if_pos (by omega),atc a (by omega),if_pos (by omega)]
  · rw [qcm,hNl] at hk
    rw [qf1]
    split
    · rename_i hlt
      have hc:=h.lt a hlt
      rw [low k _ hk hc]
      split
      · rfl
      · rename_i hkr
        rw [lowN k _ hkr hc]
        split
        · rfl
        · exact h.alone a k hlt hk hka
    · rw [if_pos (by omega),atc k hk,if_neg (by omega)]
  · rw [qf1] at hj
    split at hj
    · rename_i hlt
      have hc:=h.lt a hlt
      rw [low a _ (by omega) (by omega),if_neg (by omega),lowN a _ (by omega) (by omega),if_neg (by omega)]
      exact h.lead a j hlt hj
    · rw [if_pos (by omega)] at hj
      rw [low a _ (by omega) hj,if_pos (by omega)]
  · rw [qcm,hNl] at hkm
    rw [hlen] at hk
    by_cases hjc:j=col
    · subst hjc;rw [atc k hkm,if_neg (by omega)]
    · rw [low k j hkm (by omega),if_neg (by omega),lowN k j (by omega) (by omega)]
      split
      · rfl
      · exact h.zero k j (by omega) hkm (by omega)
theorem LSpan.at_ {M:List (List α)} {k:Nat} (hk:k<M.length):LSpan M (toV (M.getD k [])):=LSpan.mem (getD_mem hk)
theorem qq2 (hw:∀ x∈M,x.length=n) (hr:r<M.length) (hi:i<M.length) (hne:ent M i col≠Fl.zero) (u:Vc α):LSpan (qh1 r col (qdm r i col M)) u↔LSpan M u:=by
  generalize hN:qdm r i col M=N
  have hNl:N.length=M.length:=by rw [←hN,qdz]
  have hNg:∀ k,N.getD k []=if k=r then (M.getD i []).map (mul (inv (ent M i col))) else if k=i then M.getD r [] else M.getD k []:=fun k=>by rw [←hN];exact qkb hr hi
  have hNw:∀ k,k<M.length→(N.getD k []).length=n:=fun k hk=>by rw [←hN];exact qh0 hw hr hi hk
  have toN:∀ u,LSpan N u↔LSpan M u:=by
    intro u
    constructor
    · refine LSpan.mono fun x hx=>?_
      obtain⟨k,hk,rfl⟩:=List.mem_iff_getElem.1 hx
      rw [←qcb hk,hNg]
      split
      · rw [qqz];exact Span.smul _ (LSpan.at_ hi)
      · split
        · exact LSpan.at_ hr
        · exact LSpan.at_ (by omega)
    · refine LSpan.mono fun x hx=>?_
      obtain⟨k,hk,rfl⟩:=List.mem_iff_getElem.1 hx
      rw [←qcb hk]
      have hs:LSpan N (vs (inv (ent M i col)) (toV (M.getD i []))):=by
        have:=LSpan.at_ (M:=N) (k:=r) (by omega)
        rw [hNg,if_pos rfl,qqz] at this
        exact this
      have hi':LSpan N (toV (M.getD i [])):=by
        have:=Span.smul (ent M i col) hs
        rw [vs_vs,mul_inv _ hne,vs_one] at this
        exact this
      by_cases hki:k=i
      · rw [hki];exact hi'
      · by_cases hkr:k=r
        · subst hkr
          have:=LSpan.at_ (M:=N) (k:=i) (by omega)
          rw [hNg,if_neg (Ne.symm hki),if_pos rfl] at this
          exact this
        · have:=LSpan.at_ (M:=N) (k:=k) (by omega)
          rw [hNg,if_neg hkr,if_neg hki] at this
          exact this
  refine Iff.trans ?_ (toN u)
  have hEl:=qcm r col N
  have sub:∀ k,k<N.length→k≠r→toV ((qh1 r col N).getD k [])=va (toV (N.getD k [])) (vs (neg Fl.one) (vs (ent N k col) (toV (N.getD r [])))):=by
    intro k hk hkr
    rw [qfr hk,if_neg hkr,toV_lsub (by rw [hNw k (by omega),hNw r hr])]
  have atr:(qh1 r col N).getD r []=N.getD r []:=by rw [qfr (by omega),if_pos rfl]
  constructor
  · refine LSpan.mono fun x hx=>?_
    obtain⟨k,hk,rfl⟩:=List.mem_iff_getElem.1 hx
    rw [←qcb hk]
    by_cases hkr:k=r
    · rw [hkr,atr];exact LSpan.at_ (by omega)
    · rw [sub k (by omega) hkr]
      exact Span.add (LSpan.at_ (by omega)) (Span.smul _ (Span.smul _ (LSpan.at_ (by omega))))
  · refine LSpan.mono fun x hx=>?_
    obtain⟨k,hk,rfl⟩:=List.mem_iff_getElem.1 hx
    rw [←qcb hk]
    have hrr:LSpan (qh1 r col N) (toV (N.getD r [])):=by
      have:=LSpan.at_ (M:=qh1 r col N) (k:=r) (by omega)
      rw [atr] at this
      exact this
    by_cases hkr:k=r
    · rw [hkr];exact hrr
    · have h1:=LSpan.at_ (M:=qh1 r col N) (k:=k) (by omega)
      rw [sub k hk hkr] at h1
      have h2:LSpan (qh1 r col N) (va (va (toV (N.getD k [])) (vs (neg Fl.one) (vs (ent N k col) (toV (N.getD r []))))) (vs (ent N k col) (toV (N.getD r [])))):=Span.add h1 (Span.smul _ hrr)
      rw [qg3,va_comm (vs (neg Fl.one) _),vneg,qc3] at h2
      exact h2
theorem RedTo.done (h:RedTo n n M P):LRed n (M.take P.length)∧∀ u,LSpan (M.take P.length) u↔LSpan M u:=by
  have hl:(M.take P.length).length=P.length:=by rw [List.length_take];have:=h.len;omega
  have hg:∀ k,k<P.length→(M.take P.length).getD k []=M.getD k []:=fun k hk=>by
    simp only [List.getD_eq_getElem?_getD,List.getElem?_take_of_lt hk]
  have hpv:∀ k,k<P.length→lpiv (M.getD k [])=P.getD k 0:=fun k hk=>by
    have hkm:k<M.length:=by have:=h.len;omega
    refine lpiv_eq (by rw [qb5 h.width hkm];exact h.lt k hk) (fun j hj=>h.lead k j hk hj) ?_
    rw [show (M.getD k []).getD (P.getD k 0) Fl.zero=Fl.one from h.one k hk]
    exact one_ne
  refine⟨⟨fun x hx=>?_,?_⟩,fun u=>⟨LSpan.mono fun x hx=>LSpan.mem (List.mem_of_mem_take hx),LSpan.mono fun x hx=>?_⟩⟩
  · obtain⟨k,hk,rfl⟩:=List.mem_iff_getElem.1 hx
    rw [hl] at hk
    rw [←qcb (by rw [hl];exact hk),hg k hk,hpv k hk]
    exact⟨qb5 h.width (by have:=h.len;omega),h.lt k hk,h.one k hk⟩
  · refine List.pairwise_iff_getElem.2 fun a b ha hb hab=>?_
    rw [hl] at ha hb
    rw [←qcb (by rw [hl];exact ha),←qcb (by rw [hl];exact hb),hg a ha,hg b hb,hpv a ha,hpv b hb]
    have hm:=h.len
    exact⟨h.inc a b hab hb,h.alone b a hb (by omega) (by omega),h.alone a b ha (by omega) (by omega)⟩
  · obtain⟨k,hk,rfl⟩:=List.mem_iff_getElem.1 hx
    rw [←qcb hk]
    by_cases hkP:k<P.length
    · rw [←hg k hkP];exact LSpan.at_ (by rw [hl];exact hkP)
    · have:toV (M.getD k [])=vz:=by
        funext j
        by_cases hj:j<n
        · exact h.zero k j (by omega) hk hj
        · exact qft (by rw [qb5 h.width hk];omega)
      rw [this];exact .zero
end
end
end Go.Sim

namespace Go.Sim
open Go Go.Proofs
section
variable {α:Type} [Fl α] [DecidableEq α] {cd:α→Nat} {p e b c q:Nat} {blk:AB} {H:AH}
theorem Acc.keepHi {H0 H1 H2:AH} {v:Value} {cs:List Value} {t:TypeId} (h:Acc H0 H1 v cs t) (hk:∀ x,H0.length≤x→x<H1.length→H2[x]? = H1[x]?):Acc H0 H2 v cs t:=by
  rcases h with h|⟨bl,h1,rfl,op,h3,h2⟩
  · exact .inl h
  · exact .inr ⟨bl,h1,rfl,op,h3,by rw [hk bl h1 (qbx h2)];exact h2⟩
def qgw {β:Type} (d:β) (l:List β) (i r:Nat):List β:=(l.set i (l.getD r d)).set r (l.getD i d)
theorem qc5 {β:Type} {d:β} {l:List β} {i r:Nat}:(qgw d l i r).length=l.length:=by simp [qgw]
theorem qgv {β:Type} {d:β} {l:List β} {i r k:Nat} (hi:i<l.length) (hr:r<l.length):(qgw d l i r).getD k d=if k=r then l.getD i d else if k=i then l.getD r d else l.getD k d:=by
  unfold qgw
  rw [getD_set (by simpa using hr)]
  split
  · rfl
  · rw [getD_set hi]
theorem qrr {β:Type} {d:β} {l:List β} {i r:Nat} (hi:i<l.length) (hr:r<l.length) {x:β} (hx:x∈qgw d l i r):x∈l:=by
  rcases List.mem_or_eq_of_mem_set hx with hx|rfl
  · rcases List.mem_or_eq_of_mem_set hx with hx|rfl
    · exact hx
    · exact getD_mem hr
  · exact getD_mem hi
theorem nodup_of_getD {l:List Nat} (h:∀ i j,i<j→j<l.length→l.getD i 0≠l.getD j 0):l.Nodup:=by
  refine List.pairwise_iff_getElem.2 fun i j hi hj hij=>?_
  have:=h i j hij hj
  simpa [List.getD_eq_getElem?_getD,List.getElem?_eq_getElem hi,List.getElem?_eq_getElem hj] using this
theorem lswap_nodup {l:List Nat} {i r:Nat} (h:l.Nodup) (hi:i<l.length) (hr:r<l.length):(qgw 0 l i r).Nodup:=by
  refine nodup_of_getD fun a b hab hb=>?_
  rw [qc5] at hb
  have ne:∀ {x y},x<l.length→y<l.length→x≠y→l.getD x 0≠l.getD y 0:=fun hx hy hne=>qgs h hx hy hne
  rw [qgv hi hr,qgv hi hr]
  by_cases h1:a=r
  · rw [if_pos h1,if_neg (show ¬b=r by omega)]
    by_cases h2:b=i
    · rw [if_pos h2];exact ne hi hr (by omega)
    · rw [if_neg h2];exact ne hi hb (by omega)
  · rw [if_neg h1]
    by_cases h2:a=i
    · rw [if_pos h2]
      by_cases h3:b=r
      · rw [if_pos h3];exact ne hr hi (by omega)
      · rw [if_neg h3,if_neg (show ¬b=i by omega)];exact ne hr hb (by omega)
    · rw [if_neg h2]
      by_cases h3:b=r
      · rw [if_pos h3];exact ne (by omega) hi (by omega)
      · rw [if_neg h3]
        by_cases h4:b=i
        · rw [if_pos h4];exact ne (by omega) hr (by omega)
        · rw [if_neg h4];exact ne (by omega) hb (by omega)
theorem Mat.swap {n mb sb:Nat} {bs:List Nat} {M:List (List α)} (h:Mat cd p e b c n mb sb bs H M) {i r:Nat} (hi:i<M.length) (hr:r<M.length) {op:Option Nat} :
    Mat cd p e b c n mb sb (qgw 0 bs i r) (H.set sb (.cells ((qgw 0 bs i r).map (rsl n)) 31 op false)) (qgw [] M i r):=by
  have hl:=h.len
  obtain⟨op0,ho⟩:=h.spine
  have hnd:=h.nd
  simp only [List.nodup_cons,List.mem_cons,not_or] at hnd
  obtain⟨⟨n1,n2⟩,n3,n4⟩:=hnd
  have hm:∀ {x},x∈qgw 0 bs i r→x∈bs:=fun hx=>qrr (by omega) (by omega) hx
  refine⟨?_,⟨op,List.getElem?_set_self (qbx ho)⟩,by rw [qc5,qc5,hl],fun k hk=>?_,fun x hx=>h.width _ (qrr hi hr hx),?_⟩
  · rw [List.getElem?_set_ne (Ne.symm n1),qc5];exact h.var
  · rw [qc5] at hk
    have hne:sb≠(qgw 0 bs i r).getD k 0:=fun e=>n3 (e ▸ hm (getD_mem (by rw [qc5];omega)))
    rw [List.getElem?_set_ne hne,qgv (by omega) (by omega),qgv hi hr]
    split
    · exact h.row i hi
    · split
      · exact h.row r hr
      · exact h.row k hk
  · simp only [List.nodup_cons,List.mem_cons,not_or]
    exact⟨⟨n1,fun hx=>n2 (hm hx)⟩,fun hx=>n3 (hm hx),lswap_nodup n4 (by omega) (by omega)⟩
theorem st_sp {bl k n x:Nat} {bs:List Nat} {t:TypeId} {op:Option Nat} (h:H[bl]? = some (.cells (bs.map (rsl n)) t op false)) (hk:k<bs.length):xact (.st 1) H [.pointer (some ⟨bl,k,none⟩),rsl n x]=some (undef,H.set bl (.cells ((bs.set k x).map (rsl n)) t op false)):=by
  unfold xact
  simp only [h]
  rw [if_pos ⟨rfl,rfl,by simp;omega⟩]
  simp [putL,List.map_set,qbq]
def PRed (cd:α→Nat) (p e b c n w mb sb:Nat) (bs:List Nat) (M:List (List α)) (H H':AH) (r:Value):Prop:=
  ∃ bs' M' P,Mat cd p e b c n mb sb bs' H' M'∧RedTo n w M' P∧M'.length=M.length∧(∀ u,LSpan M' u↔LSpan M u)∧Acc H H' r (P.map nv) 3∧(∀ x,x<H.length→x∉mb :: sb :: bs→H'[x]? = H[x]?)∧(∀ x∈bs',x∈bs)∧H.length≤H'.length
theorem preduce_c (F:FOK α cd p e b c q blk) {n w mb sb:Nat} {bs:List Nat} {M:List (List α)} (hb:H[b]? = some blk) (hbn:b∉mb :: sb :: bs) (h:Mat cd p e b c n mb sb bs H M) (hM:M.length≤1000) (hn:n≤1000) (hw:w≤n) (hm0:0<M.length) :
    FN Tryz.prog 205 [.pointer (some ⟨mb,0,none⟩),nv w] H (fun r H'=>PRed cd p e b c n w mb sb bs M H H' r):=by
  refine g205_of ?_
  unfold g205
  have mlt:∀ x∈mb :: sb :: bs,x<H.length:=by
    intro x hx
    obtain⟨op,ho⟩:=h.spine
    simp only [List.mem_cons] at hx
    rcases hx with rfl|rfl|hx
    · exact qbx h.var
    · exact qbx ho
    · obtain⟨k,hk,rfl⟩:=List.mem_iff_getElem.1 hx
      have:=h.row k (by rw [←h.len];exact hk)
      rw [List.getD_eq_getElem?_getD,List.getElem?_eq_getElem hk] at this
      exact qbx this
  refine loopV2.nat w (fun col piv v13 H'=>v13=nv col∧∃ bs' M' P,Mat cd p e b c n mb sb bs' H' M'∧RedTo n col M' P∧M'.length=M.length∧(∀ u,LSpan M' u↔LSpan M u)∧Acc H H' piv (P.map nv) 3∧(∀ x,x<H.length→x∉mb :: sb :: bs→H'[x]? = H[x]?)∧(∀ x∈bs',x∈bs)∧H.length≤H'.length)
    ⟨rfl,bs,M,[],h,RedTo.start h.width,rfl,fun _=>Iff.rfl,Acc.nil,fun _ _ _=>rfl,fun _ hx=>hx,Nat.le_refl _⟩ ?_ ?_
  · rintro col piv v13 H1 hk ⟨rfl,bs1,M1,P,hm1,hr1,hl1,hs1,hpv,hfr,hsub,hlen⟩ J hJ
    have hpl:qbc .lenS [piv]=some (nv P.length):=by have:=hpv.row.len;simpa using this
    obtain⟨op,ho⟩:=hm1.spine
    have v0:=hm1.var
    have hPl:=hr1.len
    have hbl:=hm1.len
    simp (disch:=omega) only [zA,zB,zC,zD,zF,zG,zH,↓reduceIte,hk,hpl]
    refine loopV1.ind (fun m i8 H2=>∃ i,i8=nv i∧H2=H1∧P.length≤i∧i+m=M1.length∧∀ k,P.length≤k→k<i→ent M1 k col=Fl.zero) (M1.length-P.length) ⟨P.length,rfl,rfl,Nat.le_refl _,by omega,fun k h1 h2=>by omega⟩ ?_
    rintro m i8 H1 ⟨i,rfl,rfl,hi1,hi2,hi3⟩ J2 hJ2
    by_cases him:i<M1.length
    · have hib:i<bs1.length:=by omega
      have l1:=ld_sp ho hib
      have hcw:col<(M1.getD i []).length:=by rw [qb5 hm1.width him];omega
      have l2:=ld_ev (hm1.row i him) hcw
      have hbw:col<n:=by omega
      by_cases he:ent M1 i col=Fl.zero
      · have he0:cd ((M1.getD i []).getD col Fl.zero)=0:=(F.eq0 _).2 he
        simp (disch:=omega) only [zA,zB,zC,zD,zF,zG,zH,↓reduceIte,v0,hib,l1,l2,he0,hbw]
        refine hJ2 _ _ ⟨m-1,by omega,i+1,rfl,rfl,by omega,by omega,fun k h1 h2=>?_⟩
        by_cases hki:k=i
        · rw [hki];exact he
        · exact hi3 k h1 (by omega)
      · have he0:¬cd ((M1.getD i []).getD col Fl.zero)=0:=fun hh=>he ((F.eq0 _).1 hh)
        have hrm:P.length<M1.length:=by omega
        have hrb:P.length<bs1.length:=by omega
        have hne2:¬i=bs1.length:=by omega
        have l3:=ld_sp ho hrb
        have hst:=hr1.step him hi1 he
        have hsp:=qq2 (n:=n) hm1.width hrm him he
        have s1:=st_sp (x:=bs1.getD P.length 0) ho hib
        have hsb:=qbx ho
        have ho2:(H1.set sb (.cells ((bs1.set i (bs1.getD P.length 0)).map (rsl n)) 31 op false))[sb]? = some (.cells ((bs1.set i (bs1.getD P.length 0)).map (rsl n)) 31 op false):=List.getElem?_set_self hsb
        have s2:=st_sp (x:=bs1.getD i 0) ho2 (k:=P.length) (by simpa using hrb)
        rw [List.set_set] at s2
        have hm2:=hm1.swap him hrm (op:=op)
        change xact _ _ _=some (undef,H1.set sb (.cells ((qgw 0 bs1 i P.length).map (rsl n)) 31 op false)) at s2
        have hfr2:∀ x,x≠sb→(H1.set sb (.cells ((qgw 0 bs1 i P.length).map (rsl n)) 31 op false))[x]? = H1[x]?:=fun x hx=>List.getElem?_set_ne (Ne.symm hx)
        have hH2l:(H1.set sb (.cells ((qgw 0 bs1 i P.length).map (rsl n)) 31 op false)).length=H1.length:=by simp
        have hsub2:∀ x∈qgw 0 bs1 i P.length,x∈bs:=fun x hx=>hsub x (qrr hib hrb hx)
        have hM2g:∀ k,(qgw [] M1 i P.length).getD k []=if k=P.length then M1.getD i [] else if k=i then M1.getD P.length [] else M1.getD k []:=fun k=>qgv him hrm
        have hfront:(qgw [] M1 i P.length).set P.length ((M1.getD i []).map (Fl.mul (Fl.inv (ent M1 i col))))=qdm P.length i col M1:=rfl
        have hM2l:(qgw [] M1 i P.length).length=M1.length:=qc5
        simp (disch:=omega) only [zA,zB,zC,zD,zF,zG,zH,↓reduceIte,v0,hib,l1,l2,he0,hbw,hne2,hrb,l3,s1,s2]
        generalize hbs2:qgw 0 bs1 i P.length=bs2 at *
        generalize hM2:qgw [] M1 i P.length=M2 at *
        generalize hHH2:H1.set sb (.cells (bs2.map (rsl n)) 31 op false)=H2 at *
        have v2:=hm2.var
        obtain⟨op2,ho2'⟩:=hm2.spine
        have hbl2:=hm2.len
        have hrb2:P.length<bs2.length:=by omega
        have l4:=ld_sp ho2' hrb2
        have hrow2:=hm2.row P.length (by omega)
        rw [hM2g,if_pos rfl] at hrow2
        have l5:=ld_ev hrow2 hcw
        have hb2:H2[b]? = some blk:=by
          simp only [List.mem_cons,not_or] at hbn
          rw [hfr2 b hbn.2.1,hfr b (qbx hb) (by simp only [List.mem_cons,not_or];exact hbn)];exact hb
        have hbn2:b∉mb :: sb :: bs2:=by
          simp only [List.mem_cons,not_or] at hbn ⊢
          exact⟨hbn.1,hbn.2.1,fun hx=>hbn.2.2 (hsub2 b hx)⟩
        simp (disch:=omega) only [zA,zB,zC,zD,zF,zG,zH,↓reduceIte,v2,hrb2,l4,l5,hbw]
        refine FZ.use (F.inv _ _ hb2 he) ?_
        simp (disch:=omega) only [zA,zB,zC,zD,zF,zG,zH,↓reduceIte]
        refine FZ.use (scale_c F (a:=Fl.inv (ent M1 i col)) hb2 hbn2 hm2 (i:=P.length) (by omega) hn (by omega)) ?_
        have hm3:=hm2.setRow (i:=P.length) (by omega) (x:=(M1.getD i []).map (Fl.mul (Fl.inv (ent M1 i col)))) (by rw [List.length_map,qb5 hm1.width him])
        rw [hfront] at hm3
        rw [hM2g,if_pos rfl]
        have hbi2:=getD_mem (d:=0) hrb2
        have hfr3:∀ x,x∉bs2→(H2.set (bs2.getD P.length 0) (.cells (evs cd ((M1.getD i []).map (Fl.mul (Fl.inv (ent M1 i col))))) 3 none false))[x]? = H2[x]?:=fun x hx=>List.getElem?_set_ne fun e=>hx (by rw [←e];exact hbi2)
        have hH3l:(H2.set (bs2.getD P.length 0) (.cells (evs cd ((M1.getD i []).map (Fl.mul (Fl.inv (ent M1 i col))))) 3 none false)).length=H2.length:=by simp
        have hNl:(qdm P.length i col M1).length=M1.length:=qdz
        have hEl:=qcm P.length col (qdm P.length i col M1)
        have hEg:=fun k hk=>qfr (r:=P.length) (col:=col) (M:=qdm P.length i col M1) (k:=k) hk
        change ∀ x,x∉bs2→(H2.set (bs2.getD P.length 0) (.cells (evs cd ((M1.getD i []).map (Fl.mul (Fl.inv (ent M1 i col))))) 3 none false))[x]? = H2[x]? at hfr3
        generalize hN:qdm P.length i col M1=N at *
        generalize hE:qh1 P.length col N=E at *
        have hNr:∀ k,k<N.length→k≠P.length→E.getD k []=lsub (N.getD k []) (ent N k col) (N.getD P.length []):=fun k hk hkr=>by rw [hEg k hk,if_neg hkr]
        have hNrr:E.getD P.length []=N.getD P.length []:=by rw [hEg _ (by omega),if_pos rfl]
        generalize hHH3:H2.set (bs2.getD P.length 0) (.cells (evs cd ((M1.getD i []).map (Fl.mul (Fl.inv (ent M1 i col))))) 3 none false)=H3 at *
        change @qbb _ ⟨_⟩
        have hb3:H3[b]? = some blk:=by
          rw [hfr3 b (fun hx=>by simp only [List.mem_cons,not_or] at hbn2;exact hbn2.2.2 hx)];exact hb2
        have v3:=hm3.var
        simp (disch:=omega) only [zA,zB,zC,zD,zF,zG,zH,↓reduceIte,v3]
        refine loopV1.nat M1.length (fun k j H'=>j=nv k∧Mat cd p e b c n mb sb bs2 H' (E.take k++N.drop k)∧(∀ x,x∉bs2→H'[x]? = H3[x]?)∧H'.length=H3.length) ⟨rfl,by simpa using hm3,fun _ _=>rfl,rfl⟩ ?_ ?_
        · rintro k j H4 hkm ⟨rfl,hm4,hfr4,hl4⟩ J3 hJ3
          have hbl3:k<bs2.length:=by omega
          have hCk:=qj4 [] N E k (by omega)
          have hpre:=qm1 [] N E k (by omega) (by omega)
          by_cases hkr:k=P.length
          · subst hkr
            simp (disch:=omega) only [zA,zB,zC,zD,zF,zG,zH,↓reduceIte,hbl3]
            refine hJ3 _ _ ⟨rfl,?_,hfr4,hl4⟩
            rw [←hpre,hNrr,←hCk]
            have:∀ (L:List (List α)) (k:Nat),k<L.length→L.set k (L.getD k [])=L:=fun L k hL=>by
              refine List.ext_getElem (by simp) fun l h1 h2=>?_
              by_cases hlk:k=l
              · subst hlk;simp [List.getD_eq_getElem?_getD,List.getElem?_eq_getElem h2]
              · simp [List.getElem_set_ne hlk]
            rw [this _ _ (by simp;omega)]
            exact hm4
          · have v4:=hm4.var
            obtain⟨op4,ho4⟩:=hm4.spine
            have l6:=ld_sp ho4 hbl3
            have hCl:(E.take k++N.drop k).length=M1.length:=by simp;omega
            have hrow4:=hm4.row k (by omega)
            rw [hCk] at hrow4
            have hNwk:(N.getD k []).length=n:=by
              have:=qb5 hm4.width (k:=k) (by omega)
              rwa [hCk] at this
            have l7:=ld_ev hrow4 (k:=col) (by omega)
            have hb4:H4[b]? = some blk:=by
              rw [hfr4 b (fun hx=>by simp only [List.mem_cons,not_or] at hbn2;exact hbn2.2.2 hx)];exact hb3
            simp (disch:=omega) only [zA,zB,zC,zD,zF,zG,zH,↓reduceIte,hbl3,hkr,v4,l6,l7,hbw]
            refine FZ.use (subtract_c F hb4 hbn2 hm4 (i:=k) (j:=P.length) (by omega) (by omega) hkr hn) ?_
            have hCr:(E.take k++N.drop k).getD P.length []=N.getD P.length []:=by
              simp only [List.getD_eq_getElem?_getD]
              by_cases hlt:P.length<k
              · rw [List.getElem?_append_left (by simp;omega),List.getElem?_take_of_lt hlt]
                simpa [List.getD_eq_getElem?_getD] using hNrr
              · rw [List.getElem?_append_right (by simp;omega)]
                simp only [List.length_take,List.getElem?_drop]
                congr 2
                omega
            rw [hCk,hCr]
            have hsl:(lsub (N.getD k []) ((N.getD k []).getD col Fl.zero) (N.getD P.length [])).length=n:=by
              have h2:=qb5 hm4.width (k:=P.length) (by omega)
              rw [hCr] at h2
              rw [qj7 (by omega),hNwk]
            have hm5:=hm4.setRow (i:=k) (by omega) hsl
            have hEk:=hNr k (by omega) hkr
            change E.getD k []=lsub (N.getD k []) ((N.getD k []).getD col Fl.zero) (N.getD P.length []) at hEk
            rw [←hEk,hpre] at hm5
            rw [←hEk]
            simp (disch:=omega) only [zA,zB,zC,zD,zF,zG,zH,↓reduceIte,hbl3]
            refine hJ3 _ _ ⟨rfl,hm5,fun x hx=>?_,by simp [hl4]⟩
            rw [List.getElem?_set_ne fun e=>hx (by rw [←e];exact getD_mem hbl3)]
            exact hfr4 x hx
        · rintro j H4 ⟨rfl,hm4,hfr4,hl4⟩ J3
          rw [List.take_of_length_le (by omega),List.drop_of_length_le (by omega),List.append_nil] at hm4
          have hx1:∀ x,H.length≤x→H4[x]? = H1[x]?:=by
            intro x hx
            have h1:x∉bs2:=fun hx2=>by have:=mlt x (by simp [hsub2 x hx2]);omega
            have h2:x≠sb:=fun hx2=>by have:=mlt x (by simp [hx2]);omega
            rw [hfr4 x h1,hfr3 x h1,hfr2 x h2]
          have hpv4:=hpv.keepHi (H2:=H4) fun x hx _=>hx1 x hx
          have hPl2:P.length≤1000:=by omega
          obtain⟨out',H5,e1,ho',hp',hl5⟩:=hpv4.app1F (by_:=8) (by omega) (u:=nv col) rfl (by simp;omega) (by simp;omega) (e2:=3)
          have hbl3:¬M1.length<bs2.length:=by omega
          simp (disch:=(first|omega|(simp only [qbj]<;>omega)|(simp only [qbg];done)|rfl)) only [zA,zB,zC,zD,zF,zG,zH,Nat.reduceEqDiff,Nat.reduceLT,Nat.reduceLeDiff,↓reduceIte,hbl3,e1,hk]
          refine hJ _ _ _ ⟨rfl,bs2,E,P++[col],hm4.keep fun x hx=>hp' x (mlt x ?_),hst,by omega,fun u=>(hsp u).trans (hs1 u),by simpa using ho',fun x hx hxn=>?_,hsub2,by omega⟩
          · simp only [List.mem_cons] at hx ⊢
            rcases hx with hx|hx|hx
            · exact .inl hx
            · exact .inr (.inl hx)
            · exact .inr (.inr (hsub2 x hx))
          · have h1:x∉bs2:=fun hx2=>hxn (by simp [hsub2 x hx2])
            have h2:x≠sb:=fun hx2=>hxn (by simp [hx2])
            rw [hp' x hx,hfr4 x h1,hfr3 x h1,hfr2 x h2]
            exact hfr x hx hxn
    · have hme:i=M1.length:=by omega
      have hnb:¬i<bs1.length:=by omega
      have hnb2:i=bs1.length:=by omega
      simp (disch:=omega) only [zA,zB,zC,zD,zF,zG,zH,↓reduceIte,v0,hnb2]
      refine hJ _ _ _ ⟨rfl,bs1,M1,P,hm1,hr1.skip fun k h1 h2=>hi3 k h1 (by omega),hl1,hs1,hpv,hfr,hsub,hlen⟩
  · rintro piv v13 H1 ⟨rfl,bs1,M1,P,h1⟩ J
    simp (disch:=omega) only [zA,zB,zC,zD,zF,zG,zH,↓reduceIte]
    exact⟨bs1,M1,P,h1⟩
end
end Go.Sim

set_option maxRecDepth 100000
namespace Go.Sim
open Go Go.Proofs
local instance coZSpG3:Coe AH Value:=⟨fun H=>.pointer (some ⟨H.length,0,none⟩)⟩
def g183 (s0 n1:Value) (H:AH) (R:Value→AH→Prop):Prop:=
 @joinV0 (fun J1=>@qbb (xbin .lss 0 n1 (nv 0)) ⟨fun v6 =>
 @qbv v6 ⟨fun q=>if q=true then @qbb (qbc .bad [(.string (.mk #[99,97,110,110,111,116,32,98,101,32,110,101,103,97,116,105,118,101]))]) ⟨fun v7 =>
 @qbb (qbc .bad [v7]) ⟨fun _v =>
 J1 H⟩⟩ else
 J1 H⟩⟩) ⟨fun H1 =>
 @joinV1 (fun J2=>@qbb (qbc .capN [s0]) ⟨fun v10 =>
 @qbb (qbc .lenS [s0]) ⟨fun v12 =>
 @qbb (xbin .sub 0 v10 v12) ⟨fun v13 =>
 @qbb (xbin .sub 0 n1 v13) ⟨fun v14 =>
 @qbb (xbin .gtr 0 v14 (nv 0)) ⟨fun v16 =>
 @qbv v16 ⟨fun q=>if q=true then @qbb (qbc .capN [s0]) ⟨fun v19 =>
 @qbb (qbc (.slS 1 false true) [s0,v19]) ⟨fun v20 =>
 @qbn (xact (.apz [nv 0] 1 8 3) H1 [v20,v14]) ⟨fun v22 H2 =>
 @qbb (qbc .lenS [s0]) ⟨fun v24 =>
 @qbb (qbc (.slS 1 false true) [v22,v24]) ⟨fun v25 =>
 J2 v25 H2⟩⟩⟩⟩⟩ else
 J2 s0 H1⟩⟩⟩⟩⟩⟩) ⟨fun s0a H3 =>
 R s0a H3⟩⟩
theorem g183_of {s0 n1:Value} {H:AH} {R:Value→AH→Prop} (h:g183 s0 n1 H R):FN Tryz.prog 183 [s0,n1] H R:=
  FN.of_XM (ms:=[(1,[]),(3,[0])]) qbt (cast (by kernel_rfl) h)
end Go.Sim

namespace Go.Sim
open Go Go.Proofs
theorem qkk (z:Value) (n:Nat):(Builtin.zeroCells [z].toArray n).toList=List.replicate n z:=by
  unfold Builtin.zeroCells
  refine List.ext_getElem (by simp) fun i h1 h2=>?_
  simp [Nat.mod_one]
theorem cap_nil:qbc .capN [.slice none 0 0]=some (nv 0):=rfl
theorem sl_nil:qbc (.slS 1 false true) [.slice none 0 0,nv 0]=some (.slice none 0 0):=rfl
theorem apz_nil {z:Value} {by_ n:Nat} {e:TypeId} {H:AH} (h0:0<n) (h1:n*by_≤140737488355328) (h2:n≤9223372036854775807):xact (.apz [z] 1 by_ e) H [.slice none 0 0,nv n]=some (.slice (some ⟨H.length,0,none⟩) n n,H++[.cells (List.replicate n z) e (some 1) false]):=by
  unfold xact
  simp only
  have ht:((n:Int)).toNat=n:=Int.toNat_natCast n
  rw [if_pos ⟨by omega,by omega,by omega⟩,ht,qkk]
def Room (n:Nat) (z:Value) (e:TypeId) (H H':AH) (r:Value):Prop:=(n=0∧r=.slice none 0 0∧H'=H)∨(0<n∧r=.slice (some ⟨H.length,0,none⟩) 0 n∧H'=H++[.cells (List.replicate n z) e (some 1) false])
theorem grow_c {n:Nat} {H:AH} (hn:n≤1000000):FN Tryz.prog 183 [.slice none 0 0,nv n] H (fun r H'=>Room n (nv 0) 3 H H' r):=by
  refine g183_of ?_
  unfold g183
  have h0:¬(n:Int)<0:=by omega
  by_cases hz:n=0
  · subst hz
    simp (disch:=omega) only [zA,zB,zC,zD,zF,zG,zH,↓reduceIte,cap_nil]
    exact .inl ⟨rfl,rfl,rfl⟩
  · have hp:0<n:=by omega
    have h1:n*8≤140737488355328:=by omega
    have h2:n≤9223372036854775807:=by omega
    simp (disch:=omega) only [zA,zB,zC,zD,zF,zG,zH,↓reduceIte,cap_nil,hp,sl_nil,apz_nil,h1,h2,qf8]
    exact .inr ⟨hp,rfl,rfl⟩
theorem growR_c {n:Nat} {H:AH} (hn:n≤1000000):FN Tryz.prog 207 [.slice none 0 0,nv n] H (fun r H'=>Room n (.slice none 0 0) 31 H H' r):=by
  refine g207_of ?_
  unfold g207
  by_cases hz:n=0
  · subst hz
    simp (disch:=omega) only [zA,zB,zC,zD,zF,zG,zH,↓reduceIte,cap_nil]
    exact .inl ⟨rfl,rfl,rfl⟩
  · have hp:0<n:=by omega
    have h1:n*24≤140737488355328:=by omega
    have h2:n≤9223372036854775807:=by omega
    simp (disch:=omega) only [zA,zB,zC,zD,zF,zG,zH,↓reduceIte,cap_nil,hp,sl_nil,apz_nil,h1,h2,qf8]
    exact .inr ⟨hp,rfl,rfl⟩
def Fil (H0 H:AH) (v:Value) (cs:List Value) (m:Nat) (e:TypeId):Prop:=
  (cs=[]∧m=0∧v=.slice none 0 0)∨∃ b zs,H0.length≤b∧zs.length=m∧v=.slice (some ⟨b,0,none⟩) cs.length (cs.length+m)∧H[b]? = some (.cells (cs++zs) e (some 1) false)
theorem Room.fil {n:Nat} {z:Value} {e:TypeId} {H H':AH} {r:Value} (h:Room n z e H H' r):Fil H H' r [] n e∧Pre H H':=by
  rcases h with ⟨rfl,rfl,rfl⟩|⟨h1,rfl,rfl⟩
  · exact⟨.inl ⟨rfl,rfl,rfl⟩,Pre.refl _⟩
  · exact⟨.inr ⟨H.length,List.replicate n z,Nat.le_refl _,by simp,by simp,by simp⟩,Pre.new _ _⟩
theorem Fil.acc {H0 H:AH} {v:Value} {cs:List Value} {e:TypeId} (h:Fil H0 H v cs 0 e):Acc H0 H v cs e:=by
  rcases h with ⟨h1,_,h2⟩|⟨b,zs,h1,h2,h3,h4⟩
  · exact .inl ⟨h1,h2⟩
  · have:zs=[]:=List.eq_nil_of_length_eq_zero h2
    subst this
    exact .inr ⟨b,h1,by simpa using h3,some 1,.inr rfl,by simpa using h4⟩
theorem Fil.app {H0 H:AH} {v u:Value} {cs us:List Value} {m:Nat} {e:TypeId} {by_:Nat} (h:Fil H0 H v cs m e) (hu:RowX H u us) (h1:us.all one=true) (hm:us.length≤m) (hb:(cs.length+us.length)*by_≤140737488355328) (hl:cs.length+us.length≤9223372036854775807) :
    ∃ v' H',xact (.app e 1 by_) H [v,u]=some (v',H')∧Fil H0 H' v' (cs++us) (m-us.length) e∧(Pre H0 H→Pre H0 H'):=by
  have he:=hu.2
  have hs:=hu.1.slen
  unfold xact
  simp only [he]
  rcases h with ⟨rfl,rfl,rfl⟩|⟨b,zs,hb1,hz,rfl,h2⟩
  · have:us=[]:=List.eq_nil_of_length_eq_zero (by omega)
    subst this
    rw [if_pos ⟨by rw [hs];simp [slen],by rw [hs];simp [slen],by simp⟩]
    simp only [hs,List.length_nil,if_true]
    exact⟨_,_,rfl,.inl ⟨rfl,rfl,rfl⟩,fun h=>h⟩
  · rw [if_pos ⟨by rw [hs];simpa [slen] using hb,by rw [hs];simpa [slen] using hl,h1⟩]
    simp only [h2,hs]
    rw [if_pos (by omega)]
    by_cases h0:us.length=0
    · have:us=[]:=List.eq_nil_of_length_eq_zero h0
      subst this
      simp only [List.length_nil,if_true]
      exact⟨_,_,rfl,.inr ⟨b,zs,hb1,by simpa using hz,by simp,by simpa using h2⟩,fun h=>h⟩
    · rw [if_neg h0,if_pos ⟨trivial,by simp;omega⟩]
      refine⟨_,_,rfl,.inr ⟨b,zs.drop us.length,hb1,by simp;omega,by simp;omega,?_⟩,fun h=>h.set hb1 _⟩
      rw [List.getElem?_set_self (qbx h2),qmz (by simp;omega)]
      simp [qcp]
theorem qdc {β:Type} {l:List (List β)} {k:Nat} (hk:k<l.length):(l.take (k+1)).flatten=(l.take k).flatten++l.getD k []:=by
  rw [List.take_succ_eq_append_getElem hk,List.flatten_append]
  simp [List.getD_eq_getElem?_getD,List.getElem?_eq_getElem hk]
theorem qd1 {β:Type} {l:List (List β)} {k:Nat}:(l.take k).flatten.length≤l.flatten.length:=by
  have:=congrArg List.length (congrArg List.flatten (List.take_append_drop k l))
  simp only [List.flatten_append,List.length_append] at this
  omega
section
variable {H:AH}
theorem concat_c {v:Value} {vs:List Value} {uss:List (List Value)} (hv:Row H v vs) (hl:vs.length=uss.length) (hr:∀ k,k<uss.length→RowX H (vs.getD k undef) (uss.getD k [])) (h1:∀ us∈uss,us.all one=true) (hn:uss.flatten.length≤1000000) (hl2:uss.length≤1000000) :
    FN Tryz.prog 122 [v] H (fun r H'=>Pre H H'∧Acc H H' r uss.flatten 3):=by
  refine g122_of ?_
  unfold g122
  obtain⟨vl,vi,vd,_⟩:=hv.allV
  simp (disch:=omega) only [zA,zB,zC,zD,zF,zG,zH,↓reduceIte,vl]
  refine loopV2.nat uss.length (fun k s i H'=>i=nv k∧s=nv (uss.take k).flatten.length∧H'=H) ⟨rfl,rfl,rfl⟩ ?_ ?_
  · rintro k s i _ hk ⟨rfl,rfl,rfl⟩ J hJ
    have hk':k<vs.length:=by omega
    have ul:=(hr k hk).1.len
    have hf:=qdc hk
    have hf2:=qd1 (l:=uss) (k:=k+1)
    rw [hf,List.length_append] at hf2
    simp (disch:=omega) only [zA,zB,zC,zD,zF,zG,zH,↓reduceIte,vi,vd,hk',ul]
    refine hJ _ _ _ ⟨rfl,?_,rfl⟩
    rw [hf,List.length_append]
  · rintro s i H ⟨rfl,rfl,rfl⟩ J
    rw [List.take_of_length_le (Nat.le_refl _)]
    simp (disch:=omega) only [zA,zB,zC,zD,zF,zG,zH,↓reduceIte,hl]
    refine FZ.mono (grow_c hn) ?_
    rintro g H2 hg
    obtain⟨hg1,hg2⟩:=hg.fil
    simp (disch:=omega) only [zA,zB,zC,zD,zF,zG,zH,↓reduceIte,vl]
    refine loopV2.nat uss.length (fun k s i H'=>i=nv k∧Pre H H'∧Fil H H' s (uss.take k).flatten (uss.flatten.length-(uss.take k).flatten.length) 3) ⟨rfl,hg2,by simpa using hg1⟩ ?_ ?_
    · rintro k s i H3 hk ⟨rfl,hp,ho⟩ J2 hJ2
      obtain⟨_,_,vd3,_⟩:=(hv.pre hp).allV
      have hk':k<vs.length:=by omega
      have hf:=qdc hk
      have hf2:=qd1 (l:=uss) (k:=k+1)
      rw [hf,List.length_append] at hf2
      obtain⟨v',H4,e1,ho',hp'⟩:=ho.app (by_:=8) ((hr k hk).pre hp) (h1 _ (getD_mem hk)) (by omega) (by omega) (by omega)
      simp (disch:=omega) only [zA,zB,zC,zD,zF,zG,zH,↓reduceIte,vi,vd3,hk',e1]
      refine hJ2 _ _ _ ⟨rfl,hp' hp,?_⟩
      rw [hf]
      have:uss.flatten.length-((uss.take k).flatten++uss.getD k []).length=uss.flatten.length-(uss.take k).flatten.length-(uss.getD k []).length:=by simp only [List.length_append];omega
      rw [this]
      exact ho'
    · rintro s i H3 ⟨rfl,hp,ho⟩ J2
      simp (disch:=omega) only [zA,zB,zC,zD,zF,zG,zH,↓reduceIte,hl]
      rw [List.take_of_length_le (Nat.le_refl _),Nat.sub_self] at ho
      exact⟨hp,ho.acc⟩
theorem concatR_c {v:Value} {vs:List Value} {uss:List (List Value)} (hv:Row H v vs) (hl:vs.length=uss.length) (hr:∀ k,k<uss.length→RowX H (vs.getD k undef) (uss.getD k [])) (h1:∀ us∈uss,us.all one=true) (hn:uss.flatten.length≤1000000) (hl2:uss.length≤1000000) :
    FN Tryz.prog 184 [v] H (fun r H'=>Pre H H'∧Acc H H' r uss.flatten 31):=by
  refine g184_of ?_
  unfold g184
  obtain⟨vl,vi,vd,_⟩:=hv.allV
  simp (disch:=omega) only [zA,zB,zC,zD,zF,zG,zH,↓reduceIte,vl]
  refine loopV2.nat uss.length (fun k s i H'=>i=nv k∧s=nv (uss.take k).flatten.length∧H'=H) ⟨rfl,rfl,rfl⟩ ?_ ?_
  · rintro k s i _ hk ⟨rfl,rfl,rfl⟩ J hJ
    have hk':k<vs.length:=by omega
    have ul:=(hr k hk).1.len
    have hf:=qdc hk
    have hf2:=qd1 (l:=uss) (k:=k+1)
    rw [hf,List.length_append] at hf2
    simp (disch:=omega) only [zA,zB,zC,zD,zF,zG,zH,↓reduceIte,vi,vd,hk',ul]
    refine hJ _ _ _ ⟨rfl,?_,rfl⟩
    rw [hf,List.length_append]
  · rintro s i H ⟨rfl,rfl,rfl⟩ J
    rw [List.take_of_length_le (Nat.le_refl _)]
    simp (disch:=omega) only [zA,zB,zC,zD,zF,zG,zH,↓reduceIte,hl]
    refine FZ.mono (growR_c hn) ?_
    rintro g H2 hg
    obtain⟨hg1,hg2⟩:=hg.fil
    simp (disch:=omega) only [zA,zB,zC,zD,zF,zG,zH,↓reduceIte,vl]
    refine loopV2.nat uss.length (fun k s i H'=>i=nv k∧Pre H H'∧Fil H H' s (uss.take k).flatten (uss.flatten.length-(uss.take k).flatten.length) 31) ⟨rfl,hg2,by simpa using hg1⟩ ?_ ?_
    · rintro k s i H3 hk ⟨rfl,hp,ho⟩ J2 hJ2
      obtain⟨_,_,vd3,_⟩:=(hv.pre hp).allV
      have hk':k<vs.length:=by omega
      have hf:=qdc hk
      have hf2:=qd1 (l:=uss) (k:=k+1)
      rw [hf,List.length_append] at hf2
      obtain⟨v',H4,e1,ho',hp'⟩:=ho.app (by_:=24) ((hr k hk).pre hp) (h1 _ (getD_mem hk)) (by omega) (by omega) (by omega)
      simp (disch:=omega) only [zA,zB,zC,zD,zF,zG,zH,↓reduceIte,vi,vd3,hk',e1]
      refine hJ2 _ _ _ ⟨rfl,hp' hp,?_⟩
      rw [hf]
      have:uss.flatten.length-((uss.take k).flatten++uss.getD k []).length=uss.flatten.length-(uss.take k).flatten.length-(uss.getD k []).length:=by simp only [List.length_append];omega
      rw [this]
      exact ho'
    · rintro s i H3 ⟨rfl,hp,ho⟩ J2
      simp (disch:=omega) only [zA,zB,zC,zD,zF,zG,zH,↓reduceIte,hl]
      rw [List.take_of_length_le (Nat.le_refl _),Nat.sub_self] at ho
      exact⟨hp,ho.acc⟩
theorem cloneR_c {v:Value} {vs:List Value} (hv:RowX H v vs) (hv0:vs≠[]) (h1:vs.all one=true) (hn:vs.length≤1000000):FN Tryz.prog 181 [v] H (fun r H'=>Pre H H'∧Acc H H' r vs 31):=by
  refine g181_of ?_
  unfold g181
  have hne:∃ b o c,v=.slice (some ⟨b,o,none⟩) vs.length c:=by
    rcases hv.1 with ⟨h,_⟩|⟨b,o,c,_,_,_,_,h,_⟩
    · exact absurd h hv0
    · exact⟨b,o,c,h⟩
  obtain⟨b,o,c,rfl⟩:=hne
  have e0:xbin .eql 2 (.slice (some ⟨b,o,none⟩) vs.length c) (.slice none 0 0)=some (.bool false):=by simp [xbin]
  have hp:=Pre.new H [.cells [] 31 none false]
  obtain⟨v',H',e1,a1,p1,_⟩:=Acc.appR (by_:=24) (H0:=H) (H:=H++[.cells [] 31 none false]) (by simp) (Own.new (Nat.le_refl _) (cs:=[]) (e:=31) (n:=0) rfl (Y:=[])).acc (hv.pre hp) h1 (by simp;omega) (by simp;omega)
  simp (disch:=omega) only [zA,zB,zC,zD,zF,zG,zH,↓reduceIte,e0,e1]
  exact⟨p1 hp,by simpa using a1⟩
end
end Go.Sim

namespace Go.Sim
open Go Go.Proofs
section
variable {α:Type} [Fl α] [DecidableEq α] {cd:α→Nat} {p e b c q:Nat} {blk:AB} {H:AH}
def MatO (cd:α→Nat) (p e b c n:Nat) (H0 H:AH) (r:Value) (M:List (List α)):Prop:=
  ∃ mb,r=.pointer (some ⟨mb,0,none⟩)∧H0.length≤mb∧((M=[]∧H[mb]? = some (.cells [nv p,nv e,.slice (some ⟨b,0,none⟩) e c,.slice none 0 0] 193 none false)) ∨
    (M≠[]∧∃ sb bs,Mat cd p e b c n mb sb bs H M∧∀ x∈mb :: sb :: bs,H0.length≤x))
theorem of_c (F:FOK α cd p e b c q blk) {v:Value} {n:Nat} {M:List (List α)} (hv:RowR H v (evr cd M)) (hl:∀ x∈M,x.length=n) (hM:M.length≤1000) (hn:n≤1000) (hn0:0<n) :
    FN Tryz.prog 204 [fldv p e b e c,v] H (fun r H'=>Pre H H'∧MatO cd p e b c n H H' r M):=by
  refine g204_of ?_
  unfold g204
  obtain⟨vs,hvs,hvl,hvr⟩:=hv.open
  obtain⟨vl,_,_,_⟩:=hvs.allV
  have e0:qbr [nv 0,nv 0,.slice none 0 0,.slice none 0 0] [(0,3)] [fldv p e b e c]=some [nv p,nv e,.slice (some ⟨b,0,none⟩) e c,.slice none 0 0]:=rfl
  simp (disch:=(first|omega|(simp only [qbj]<;>omega)|(simp only [qbg];done)|rfl)) only [zA,zB,zC,zD,zF,zG,zH,Nat.reduceEqDiff,Nat.reduceLT,Nat.reduceLeDiff,↓reduceIte,e0,vl]
  refine loopV1.nat M.length (fun k i H'=>i=nv k∧Pre (H++[fbx p e b c]) H'∧∃ sv bs,H'[H.length+1]? = some (.cells [nv p,nv e,.slice (some ⟨b,0,none⟩) e c,sv] 193 none false) ∧
      Acc (H++[fbx p e b c,.cells [nv p,nv e,.slice (some ⟨b,0,none⟩) e c,.slice none 0 0] 193 none false]) H' sv (bs.map (rsl n)) 31∧bs.length=k∧(∀ j,j<k→H'[bs.getD j 0]? = some (.cells (evs cd (M.getD j [])) 3 none false))∧(∀ x∈bs,H.length+2≤x)∧bs.Nodup∧H.length+2≤H'.length∧(k=0→sv=.slice none 0 0))
    ⟨rfl,Pre.snoc _ _ _,.slice none 0 0,[],by simp,Acc.nil,rfl,fun j hj=>by omega,by simp,List.nodup_nil,by simp,fun _=>rfl⟩ ?_ ?_
  · rintro k i H3 hk ⟨rfl,hp,sv,bs,h1,h2,h3,h4,h5,h6,h7,_⟩ J hJ
    have hp0:=(Pre.new H _).trans hp
    obtain⟨_,vi,vd,_⟩:=(hvs.pre hp0).allV
    have hk':k<vs.length:=by omega
    have hrow:=(hvr k hk).pre hp0
    have hwk:=qb5 hl hk
    have ul:=hrow.lenM
    rw [hwk] at ul
    have hmk:8*n≤281474976710656:=by omega
    have hne2:∀ j,j<M.length→evs cd (M.getD j [])≠[]:=fun j hj h=>by have h2:=congrArg List.length h;rw [List.length_map,qb5 hl hj] at h2;simp at h2;omega
    have hne:=hne2 k hk
    have ec:=cpy_row (cc:=(List.replicate n 0).map nv) (e:=3) (op:=none) (H:=H3++[.cells ((List.replicate n 0).map nv) 3 none false]) (b:=H3.length) (n:=n) (m:=n) ((hrow.pre (Pre.new H3 _)).x hne) (by rw [List.length_map,hwk]) (by simp [one]) (by simp) (by simp)
    rw [qb2] at ec
    have hp5:=Pre.new H3 [.cells (evs cd (M.getD k [])) 3 none false]
    have hmv:=hp5.get h1
    obtain⟨v',H7,e1,ha,hf,hl7⟩:=(h2.pre hp5).app1G (by_:=24) (u:=rsl n H3.length) (by simp;omega) rfl (by simp;omega) (by simp;omega) (e2:=31)
    simp only [List.append_assoc,List.cons_append,List.nil_append,List.length_append,List.length_cons,List.length_nil,Nat.zero_add] at e1
    have hnsv:∀ x y op r,H3[x]? = some (.cells y 3 op r)→y.all qg5=true→y≠[]→∀ l c,sv≠.slice (some ⟨x,0,none⟩) l c:=by
      intro x y op r hx hy hy0 l c hsv
      rcases h2 with ⟨_,h⟩|⟨b2,_,h,op2,_,hb2⟩
      · rw [h] at hsv;cases hsv
      · rw [h] at hsv
        cases hsv
        rw [hx] at hb2
        cases hb2
    have hnm:∀ l c,sv≠.slice (some ⟨H.length+1,0,none⟩) l c:=by
      intro l c hsv
      rcases h2 with ⟨_,h⟩|⟨b2,hb1,h,op2,_,hb2⟩
      · rw [h] at hsv;cases hsv
      · rw [h] at hsv;cases hsv;simp at hb1
    have hnl:∀ l c,sv≠.slice (some ⟨H3.length,0,none⟩) l c:=by
      intro l c hsv
      rcases h2 with ⟨_,h⟩|⟨b2,hb1,h,op2,_,hb2⟩
      · rw [h] at hsv;cases hsv
      · rw [h] at hsv;cases hsv;have:=qbx hb2;omega
    have hmv7:H7[H.length+1]? = _:=(hf _ (by simp;omega) hnm).trans hmv
    have es:=qq3 (v:=v') hmv7 (k:=3) (by simp) ha.row.cells ha.row.one
    simp (disch:=(first|omega|(simp only [qbj]<;>omega)|(simp only [qbg];done)|rfl)) only [zA,zB,zC,zD,zF,zG,zH,Nat.reduceEqDiff,Nat.reduceLT,Nat.reduceLeDiff,↓reduceIte,vi,vd,hk',ul,qc8,hmk,ec,hmv,e1,es]
    have hset:∀ x,x≠H.length+1→(H7.set (H.length+1) (.cells [nv p,nv e,.slice (some ⟨b,0,none⟩) e c,v'] 193 none false))[x]? = H7[x]?:=fun x hx=>List.getElem?_set_ne (Ne.symm hx)
    have hnew:H7[H3.length]? = some (.cells (evs cd (M.getD k [])) 3 none false):=by
      rw [hf _ (by simp) hnl];simp
    refine hJ _ _ ⟨rfl,fun x hx=>?_,v',bs++[H3.length],List.getElem?_set_self (qbx hmv7),?_,by simp [h3],fun j hj=>?_,?_,?_,by simp;simp at hl7;omega,fun h=>by omega⟩
    · simp at hx
      have hx2:∀ l c,sv≠.slice (some ⟨x,0,none⟩) l c:=by
        intro l c hsv
        rcases h2 with ⟨_,h⟩|⟨b2,hb1,h,op2,_,hb2⟩
        · rw [h] at hsv;cases hsv
        · rw [h] at hsv;cases hsv;simp at hb1;omega
      rw [hset x (by omega),hf x (by simp;omega) hx2,List.getElem?_append_left (by omega)]
      exact hp x (by simp;omega)
    · have h8:bs.map (rsl n)++[rsl n H3.length]=(bs++[H3.length]).map (rsl n):=by simp
      rw [←h8]
      exact ha.keepHi fun x hx _=>hset x (by simp at hx;omega)
    · rw [qf1]
      by_cases hjk:j<bs.length
      · rw [if_pos hjk]
        have hj4:=h4 j (by omega)
        have hxm:=getD_mem (d:=0) hjk
        have hx5:=h5 _ hxm
        rw [hset _ (by omega),hf _ (by have:=qbx hj4;rw [List.length_append];omega) (hnsv _ _ _ _ hj4 (qb3 _) (hne2 j (by omega))),List.getElem?_append_left (qbx hj4)]
        exact hj4
      · rw [if_neg hjk,if_pos (by omega),hset _ (by omega)]
        rw [hnew,show j=k by omega]
    · intro x hx
      rcases List.mem_append.1 hx with hx|hx
      · exact h5 x hx
      · rw [List.mem_singleton.1 hx];omega
    · refine List.nodup_append.2 ⟨h6,by simp,fun x hx y hy hxy=>?_⟩
      rw [List.mem_singleton.1 hy] at hxy
      obtain⟨j,hj,rfl⟩:=List.mem_iff_getElem.1 hx
      have:=qbx (h4 j (by omega))
      simp only [List.getD_eq_getElem?_getD,List.getElem?_eq_getElem hj,Option.getD_some] at this
      omega
  · rintro i H3 ⟨rfl,hp,sv,bs,h1,h2,h3,h4,h5,h6,h7,h9⟩ J
    simp (disch:=(first|omega|(simp only [qbj]<;>omega)|(simp only [qbg];done)|rfl)) only [zA,zB,zC,zD,zF,zG,zH,Nat.reduceEqDiff,Nat.reduceLT,Nat.reduceLeDiff,↓reduceIte,hvl]
    refine⟨(Pre.new H _).trans hp,H.length+1,rfl,by omega,?_⟩
    rcases h2 with ⟨hb0,hs0⟩|⟨sb,hb1,hs0,op,_,hb2⟩
    · have:bs=[]:=by simpa using hb0
      subst this
      refine .inl ⟨List.eq_nil_of_length_eq_zero (by simpa using h3.symm),by rw [h1,hs0]⟩
    · by_cases hM0:M=[]
      · have:=h9 (by rw [hM0];rfl)
        rw [hs0] at this;cases this
      · have hMp:0<M.length:=List.length_pos_iff.2 hM0
        refine .inr ⟨hM0,sb,bs,⟨by rw [h1,hs0];simp,⟨op,hb2⟩,h3,h4,hl,?_⟩,?_⟩
        · simp only [List.nodup_cons,List.mem_cons,not_or]
          simp at hb1
          refine⟨⟨by omega,fun hx=>by have:=h5 _ hx;omega⟩,fun hx=>?_,h6⟩
          obtain⟨j,hj,he⟩:=List.mem_iff_getElem.1 hx
          have h8:=h4 j (by omega)
          simp only [List.getD_eq_getElem?_getD,List.getElem?_eq_getElem hj,Option.getD_some,he] at h8
          rw [hb2] at h8
          cases bs with
          | nil=>simp at hj
          | cons a l =>
            have hwj:=qb5 hl (show j<M.length by omega)
            simp at h8
        · intro x hx
          simp at hb1
          simp only [List.mem_cons] at hx
          rcases hx with rfl|rfl|hx
          · omega
          · omega
          · have:=h5 x hx;omega
end
end Go.Sim

namespace Go.Sim
open Go Go.Proofs
theorem Pre.ext {H H':AH} (h:Pre H H'):∃ J,H'=H++J:=by
  refine⟨H'.drop H.length,?_⟩
  refine List.ext_getElem? fun k=>?_
  by_cases hk:k<H.length
  · rw [List.getElem?_append_left hk,h k hk]
  · rw [List.getElem?_append_right (by omega),List.getElem?_drop]
    congr 1;omega
theorem FN.pre0 {P:Program} {f:FuncId} {args:List Value} {H:AH} {v:Value} (h:FN P f args H (fun r H'=>Pre H H'∧r=v)) (hg:Sim.ground v=true):FN P f args H (fun r H'=>r=v∧H'=H):=
  FN.gc0 (h.mono fun r H' ⟨hp,hr⟩=>⟨hr,by rw [hr];exact hg,hp.ext⟩)
theorem RowX.of_take {H:AH} {b k c:Nat} {cs:List Value} {e:TypeId} {op:Option Nat} {r:Bool} (h:H[b]? = some (.cells cs e op r)) (hk:k≤cs.length) (hc:k≤c):RowX H (.slice (some ⟨b,0,none⟩) k c) (cs.take k):=by
  have hl:(cs.take k).length=k:=by simp;omega
  refine⟨.inr ⟨b,0,c,cs,e,op,r,by rw [hl],h,fun j hj=>?_,by omega⟩,?_⟩
  · rw [hl] at hj;rw [Nat.zero_add,List.getElem?_take_of_lt hj]
  · unfold erow
    simp [slen,h,hk]
section
variable {α:Type} [Fl α] [DecidableEq α] {cd:α→Nat} {p e b c q:Nat} {blk:AB} {H:AH}
theorem width_c {v:Value} {n:Nat} {M:List (List α)} (hv:RowR H v (evr cd M)) (hl:∀ x∈M,x.length=n):FN Tryz.prog 206 [v] H (fun r H'=>r=nv (if M=[] then 0 else n)∧H'=H):=by
  refine g206_of ?_
  unfold g206
  obtain⟨vs,hvs,hvl,hvr⟩:=hv.open
  obtain⟨vl,vi,vd,_⟩:=hvs.allV
  by_cases h0:M=[]
  · subst h0
    simp at hvl
    simp (disch:=omega) only [zA,zB,zC,zD,zF,zG,zH,↓reduceIte,vl,hvl]
  · have hp:0<M.length:=List.length_pos_iff.2 h0
    have hp':0<vs.length:=by omega
    have hn0:¬vs.length=0:=by omega
    have ul:=(hvr 0 hp).lenM
    rw [qb5 hl hp] at ul
    simp (disch:=omega) only [zA,zB,zC,zD,zF,zG,zH,↓reduceIte,vl,vi,vd,hp',hn0,ul]
    simp [h0]
theorem preduce0_c {mb w:Nat} (hm:H[mb]? = some (.cells [nv p,nv e,.slice (some ⟨b,0,none⟩) e c,.slice none 0 0] 193 none false)) (hw:w≤1000):FN Tryz.prog 205 [.pointer (some ⟨mb,0,none⟩),nv w] H (fun r H'=>r=.slice none 0 0∧H'=H):=by
  refine g205_of ?_
  unfold g205
  refine loopV2.nat w (fun k s i H'=>i=nv k∧s=.slice none 0 0∧H'=H) ⟨rfl,rfl,rfl⟩ ?_ ?_
  · rintro k s i H hk ⟨rfl,rfl,rfl⟩ J hJ
    simp (disch:=omega) only [zA,zB,zC,zD,zF,zG,zH,↓reduceIte,hk]
    refine loopV1.nat 0 (fun k i H'=>i=nv 0∧H'=H) ⟨rfl,rfl⟩ (fun _ _ _ h=>absurd h (Nat.not_lt_zero _)) ?_
    rintro i H ⟨rfl,rfl⟩ J2
    simp (disch:=omega) only [zA,zB,zC,zD,zF,zG,zH,↓reduceIte,hm]
    exact hJ _ _ _ ⟨rfl,rfl,rfl⟩
  · rintro s i H ⟨rfl,rfl,rfl⟩ J
    simp (disch:=omega) only [zA,zB,zC,zD,zF,zG,zH,↓reduceIte]
theorem reduced_eq {n:Nat} {M M':List (List α)} {P:List Nat} (hl:∀ x∈M,x.length=n) (h:RedTo n n M' P) (hs:∀ u,LSpan M' u↔LSpan M u):M'.take P.length=qbk M:=by
  obtain⟨h1,h2,_⟩:=qbz hl
  obtain⟨h3,h4⟩:=h.done
  exact h3.unique h1 fun u=>(h4 u).trans ((hs u).trans (h2 u).symm)
end
end Go.Sim
