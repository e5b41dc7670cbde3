/- Part of the proof: MsP, MsA. -/
import Derived.Test.YtbfpepbfpebmmaaGreatMDisMpH
import Derived.Test.YtbfpepbfpebmmaaGreatMDisMpL
import Derived.Test.YtbfpepbfpebmmaaGreatMDisZSpX1ToMpD
import Derived.Test.YtbfpepbfpebmmaaGreatMDisMpG
set_option linter.all false
namespace Go.Sim
section
variable {α:Type} [Fl α] [DecidableEq α]
def vwt:Nat→Vc α→Nat
  | 0,_=>0
  | n+1,v=>vwt n v+if v n=Fl.zero then 0 else 1
theorem vwt_succ (n:Nat) (v:Vc α):vwt (n+1) v=vwt n v+if v n=Fl.zero then 0 else 1:=rfl
theorem vwt_le (v:Vc α):∀ n,vwt n v≤n
  | 0=>Nat.le_refl _
  | n+1=>by have:=vwt_le v n;unfold vwt;split<;>omega
theorem vwt_cong {u v:Vc α}:∀ n,(∀ j,j<n→u j=v j)→vwt n u=vwt n v
  | 0,_=>rfl
  | n+1,h=>by unfold vwt;rw [vwt_cong n fun j hj=>h j (by omega),h n (by omega)]
theorem vwt_add (v:Vc α) (n:Nat):∀ m,vwt (n+m) v=vwt n v+vwt m (vdr n v)
  | 0=>rfl
  | m+1=>by
    rw [show n+(m+1)=(n+m)+1 from rfl,vwt_succ,vwt_succ,vwt_add v n m]
    have:vdr n v m=v (n+m):=by unfold vdr;rw [Nat.add_comm]
    rw [this,Nat.add_assoc]
theorem vwt_zero {v:Vc α}:∀ {n:Nat},vwt n v=0↔∀ j,j<n→v j=Fl.zero
  | 0=>⟨fun _ j h=>absurd h (Nat.not_lt_zero _),fun _=>rfl⟩
  | n + 1=>by
    unfold vwt
    constructor
    · intro h j hj
      by_cases h0:v n=Fl.zero
      · rw [if_pos h0] at h
        by_cases hn:j=n
        · rw [hn];exact h0
        · exact vwt_zero.1 (by omega) j (by omega)
      · rw [if_neg h0] at h;omega
    · intro h
      rw [if_pos (h n (by omega)),vwt_zero.2 fun j hj=>h j (by omega)]
theorem vwt_tri (u v w:Vc α) (h:∀ j,u j=Fl.zero→v j=Fl.zero→w j=Fl.zero):∀ n,vwt n w≤vwt n u+vwt n v
  | 0=>Nat.le_refl _
  | n + 1=>by
    have:=vwt_tri u v w h n
    unfold vwt
    by_cases h1:u n=Fl.zero
    · by_cases h2:v n=Fl.zero
      · rw [if_pos (h n h1 h2)];omega
      · rw [if_neg h2,if_pos h1];split<;>omega
    · rw [if_neg h1];split<;>split<;>omega
theorem lwt_vwt:∀ (n:Nat) (x:List α),x.length=n→lwt x=vwt n (toV x):=by
  have key:∀ (n:Nat) (x:List α),n≤x.length→lwt (x.take n)=vwt n (toV x):=by
    intro n x
    induction n with
    | zero=>intro _;simp [lwt,vwt]
    | succ n ih =>
      intro hn
      have ih:=ih (by omega)
      have hlt:n<x.length:=by omega
      have e1:lwt (x.take (n+1))=lwt (x.take n)+if x.getD n Fl.zero=Fl.zero then 0 else 1:=by
        unfold lwt
        rw [List.take_succ_eq_append_getElem hlt,List.filter_append,List.length_append]
        congr 1
        simp only [List.getD_eq_getElem?_getD,List.getElem?_eq_getElem hlt,Option.getD_some]
        by_cases h:x[n]=Fl.zero
        · rw [if_pos h,List.filter_cons_of_neg (by simp [h])];rfl
        · rw [if_neg h,List.filter_cons_of_pos (by simp [h])];rfl
      rw [e1,ih];rfl
  intro n x hx
  have:=key n x (by omega)
  rwa [List.take_of_length_le (by omega)] at this
theorem vwt_skip {n i:Nat} (hi:i<n) (v:Vc α):vwt n v=vwt (n-1) (vskip i v)+if v i=Fl.zero then 0 else 1:=by
  obtain⟨m,rfl⟩:∃ m,n=(i+1)+m:=⟨n-(i+1),by omega⟩
  rw [vwt_add,show i+1+m-1=i+m by omega,vwt_add (vskip i v) i m]
  have e1:vwt i (vskip i v)=vwt i v:=vwt_cong i fun j hj=>by unfold vskip skipP;rw [if_pos hj]
  have e2:vdr i (vskip i v)=vdr (i+1) v:=funext fun j=>by unfold vdr vskip skipP;rw [if_neg (by omega)];congr 1
  rw [e1,e2]
  show vwt i v+(if v i=Fl.zero then 0 else 1)+_=_
  omega
theorem vwt_sum {n:Nat} {v w:Vc α} (hv:∀ j,n≤j→v j=Fl.zero) (m:Nat):vwt (n+m) (va v (vsh n w))=vwt n v+vwt m w:=by
  rw [vwt_add,vdr_sum hv]
  congr 1
  exact vwt_cong n fun j hj=>by unfold va vsh;rw [if_pos hj,Fl.add_zero]
def VLst (S:Vc α→Prop) (n d:Nat):Prop:=0<d∧(∃ v,S v∧vwt n v=d)∧∀ v,S v→vwt n v≠0→d≤vwt n v
def Lst (A:List (List α)) (n d:Nat):Prop:=(A=[]∧d=0)∨VLst (LSpan A) n d
theorem VLst.cong {S T:Vc α→Prop} {n d:Nat} (h:VLst S n d) (hs:∀ u,S u↔T u):VLst T n d:=by
  obtain⟨h1,⟨v,h2,h3⟩,h4⟩:=h
  exact⟨h1,⟨v,(hs v).1 h2,h3⟩,fun u hu=>h4 u ((hs u).2 hu)⟩
theorem Lst.cd {n d:Nat} {G:List (List α)} {S:Vc α→Prop} (h:Lst G n d) (hc:Cd n G S) (h0:0<G.length):VLst S n d:=by
  rcases h with ⟨rfl,_⟩|h
  · cases h0
  · exact h.cong hc.span
theorem Lst.v {n d:Nat} {G:List (List α)} (h:Lst G n d) (h0:0<G.length):VLst (LSpan G) n d:=by
  rcases h with ⟨rfl,_⟩|h
  · cases h0
  · exact h
section
variable {n d:Nat} {A:List (List α)} (hA:LRed n A) (h0:0<A.length) (hd:Lst A n d)
include hA h0 hd
theorem vwt_ext (v:Vc α):vwt (n+1) (vext n v)=vwt n v+if vsum n v=Fl.zero then 0 else 1:=by
  show vwt n (vext n v)+(if vext n v n=Fl.zero then 0 else 1)=_
  rw [vwt_cong (v:=v) n fun j hj=>by unfold vext;rw [if_pos hj]]
  congr 1
  have e:vext n v n=Fl.neg (vsum n v):=by unfold vext;rw [if_neg (by omega),if_pos rfl]
  rw [e]
  by_cases h:vsum n v=Fl.zero
  · rw [if_pos h,if_pos (by rw [h];exact neg_zero')]
  · rw [if_neg h,if_neg (fun h'=>h (by have:=Fl.add_neg (vsum n v);rwa [h',Fl.add_zero] at this))]
theorem lst_ext {e:Nat} (he:Lst (lreduce (A.map (lext n))) (n+1) e):d≤e∧e≤d+1:=by
  have hd:=hd.v h0
  have hE:Cd (n+1) (lreduce (A.map (lext n))) (fun u=>∃ v,LSpan A v∧u=vext n v):=by
    have hr:=lreduce_red (LM.width (LM.ext n) hA.len)
    exact⟨hr.1,fun u=>(hr.2.1 u).trans ((LM.ext n).span hA.len u)⟩
  obtain⟨h1,⟨_,⟨v,h2,rfl⟩,h3⟩,h4⟩:=he.cd hE (by rw [ext_dim hA];exact h0)
  obtain⟨k1,⟨w,k2,k3⟩,k4⟩:=hd
  rw [vwt_ext hA h0 (.inr ⟨k1,⟨w,k2,k3⟩,k4⟩)] at h3
  have h5:=h4 _ ⟨w,k2,rfl⟩
  rw [vwt_ext hA h0 (.inr ⟨k1,⟨w,k2,k3⟩,k4⟩),k3] at h5
  have h6:=h5 (by omega)
  have h7:vwt n v≠0:=by
    intro hz
    have:vsum n v=Fl.zero:=by
      rw [vsum_cong (v:=vz) n (vwt_zero.1 hz)];exact (Lf.vsum n).zero
    rw [if_pos this] at h3
    omega
  have h8:=k4 v h2 h7
  constructor
  · omega
  · by_cases hw:vsum n w=Fl.zero
    · rw [if_pos hw] at h6;omega
    · rw [if_neg hw] at h6;omega
theorem lst_sho {i e:Nat} (hi:i<n) (he:Lst (lreduce ((lkept (fun v=>v i) A).map (pick (n-1) (skipP i)))) (n-1) e) (hs:0<(lreduce ((lkept (fun v=>v i) A).map (pick (n-1) (skipP i)))).length):d≤e:=by
  obtain⟨k1,_,k4⟩:=hd.v h0
  obtain⟨h1,⟨_,⟨v,h2,h3,rfl⟩,h5⟩,h4⟩:=he.cd ((Cd.self hA).short hi) hs
  have h6:=vwt_skip hi v
  rw [if_pos h3] at h6
  have:=k4 v h2 (by omega)
  omega
theorem lst_pun {i e:Nat} (hi:i<n) (he:Lst (lreduce (A.map (pick (n-1) (skipP i)))) (n-1) e) (hs:(lreduce (A.map (pick (n-1) (skipP i)))).length=A.length):d≤e+1∧e≤d:=by
  obtain⟨k1,⟨w,k2,k3⟩,k4⟩:=hd.v h0
  obtain⟨h1,⟨_,⟨v,h2,rfl⟩,h5⟩,h4⟩:=he.cd ((Cd.self hA).punct hi) (by omega)
  have h6:=vwt_skip hi v
  have h7:=k4 v h2 (by omega)
  have h8:=vwt_skip hi w
  have h9 : vwt (n-1) (vskip i w)≠0:=by
    intro hz
    have hz':=vwt_zero.1 hz
    have hout:=(Cd.self hA).out k2
    have hj0:∀ j,j≠i→w j=Fl.zero:=by
      intro j hj
      by_cases hjn:n≤j
      · exact hout j hjn
      · by_cases hji:j<i
        · have:=hz' j (by omega)
          unfold vskip skipP at this
          rwa [if_pos hji] at this
        · have:=hz' (j-1) (by omega)
          unfold vskip skipP at this
          rw [if_neg (by omega)] at this
          rwa [show j-1+1=j by omega] at this
    have hwi:w i≠Fl.zero:=by
      intro h
      rw [if_pos h] at h8
      omega
    have:=punct_dim1 hA hi k2 hj0 hwi
    omega
  have h10:=h4 _ ⟨w,k2,rfl⟩ h9
  constructor
  · by_cases h:v i=Fl.zero
    · rw [if_pos h] at h6;omega
    · rw [if_neg h] at h6;omega
  · omega
theorem lst_even {e:Nat} (he:Lst (lev (vsum n) A) n e) (hs:0<(lev (vsum n) A).length):d≤e∧∃ v:Vc α,LSpan A v∧vsum n v=Fl.zero∧vwt n v=e:=by
  obtain⟨k1,_,k4⟩:=hd.v h0
  obtain⟨h1,⟨v,h2,h5⟩,h4⟩:=he.v hs
  obtain⟨h6,h7⟩:=(lev_span (Lf.vsum n) hA.len v).1 h2
  exact⟨by rw [←h5];exact k4 v h6 (by omega),v,h6,h7,h5⟩
theorem lst_ex0 {e:Nat} (he:Lst (lreduce (A.map (lext n))) (n+1) e):∃ v:Vc α,(∀ j,n+1≤j→v j=Fl.zero)∧vsum (n+1) v=Fl.zero∧vwt (n+1) v=e:=by
  have hE:Cd (n+1) (lreduce (A.map (lext n))) (fun u=>∃ v,LSpan A v∧u=vext n v):=by
    have hr:=lreduce_red (LM.width (LM.ext n) hA.len)
    exact⟨hr.1,fun u=>(hr.2.1 u).trans ((LM.ext n).span hA.len u)⟩
  obtain⟨h1,⟨_,⟨v,h2,rfl⟩,h3⟩,h4⟩:=he.cd hE (by rw [ext_dim hA];exact h0)
  exact⟨_,hE.out ⟨v,h2,rfl⟩,ext_sum n v,h3⟩
theorem lst_sum {m o s:Nat} {B:List (List α)} (hB:LRed m B) (hb0:0<B.length) (ho:Lst B m o) (hs:Lst (lreduce (lsum n m A B)) (n+m) s):s=min d o:=by
  obtain⟨k1,⟨w,k2,k3⟩,k4⟩:=hd.v h0
  obtain⟨l1,⟨x,l2,l3⟩,l4⟩:=ho.v hb0
  have hC:=Cd.sum (Cd.self hA) (Cd.self hB)
  obtain⟨h1,⟨_,⟨v,y,h2,h5,rfl⟩,h3⟩,h4⟩:=hs.cd hC (by rw [sum_dim hA hB];omega)
  have out:∀ {u:Vc α},LSpan A u→∀ j,n≤j→u j=Fl.zero:=fun hu=>(Cd.self hA).out hu
  have hz:∀ k:Nat,vwt k (vz:Vc α)=0:=fun k=>vwt_zero.2 fun j _=>rfl
  rw [vwt_sum (out h2)] at h3
  have a1:=h4 _ ⟨w,vz,k2,Span.zero,rfl⟩
  rw [vwt_sum (out k2),hz,k3] at a1
  have a2:=h4 _ ⟨vz,x,Span.zero,l2,rfl⟩
  rw [vwt_sum (out Span.zero),hz,l3] at a2
  have a1:=a1 (by omega)
  have a2:=a2 (by omega)
  by_cases hv:vwt n v=0
  · have:=l4 y h5 (by omega)
    omega
  · have:=k4 v h2 hv
    omega
theorem lst_dbl {o s:Nat} {B:List (List α)} (hB:LRed n B) (hb0:0<B.length) (ho:Lst B n o) (hs:Lst (lreduce (ldbl n A B)) (n+n) s):s=min (2*d) o:=by
  obtain⟨k1,⟨w,k2,k3⟩,k4⟩:=hd.v h0
  obtain⟨l1,⟨x,l2,l3⟩,l4⟩:=ho.v hb0
  have hC:=Cd.dbl (Cd.self hA) (Cd.self hB)
  obtain⟨h1,⟨_,⟨v,y,h2,h5,rfl⟩,h3⟩,h4⟩:=hs.cd hC (by rw [dbl_dim hA hB];omega)
  have out:∀ {u:Vc α},LSpan A u→∀ j,n≤j→u j=Fl.zero:=fun hu=>(Cd.self hA).out hu
  have hz:∀ k:Nat,vwt k (vz:Vc α)=0:=fun k=>vwt_zero.2 fun j _=>rfl
  rw [vwt_sum (out h2)] at h3
  have e0:∀ u:Vc α,va u vz=u:=fun u=>funext fun j=>Fl.add_zero _
  have e1:∀ u:Vc α,va vz u=u:=fun u=>funext fun j=>Fl.zero_add _
  have a1:=h4 _ ⟨w,vz,k2,Span.zero,rfl⟩
  rw [vwt_sum (out k2),e0,k3] at a1
  have a2:=h4 _ ⟨vz,x,Span.zero,l2,rfl⟩
  rw [vwt_sum (out Span.zero),hz,e1,l3] at a2
  have a1:=a1 (by omega)
  have a2:=a2 (by omega)
  have ht:=vwt_tri v (va v y) y (fun j hu hw=>by
    have:Fl.add (v j) (y j)=Fl.zero:=hw
    rwa [hu,Fl.zero_add] at this) n
  by_cases hy:vwt n y=0
  · have hy':=vwt_zero.1 hy
    have e2:vwt n (va v y)=vwt n v:=vwt_cong n fun j hj=>by unfold va;rw [hy' j hj,Fl.add_zero]
    rw [e2] at h3
    have:=k4 v h2 (by omega)
    omega
  · have:=l4 y h5 hy
    omega
end
section
variable {β:Type} [Fl β] [DecidableEq β] {b0 b1:α→β} {two:α} {lift:β→α} (B:Bit2 b0 b1 two lift) {m:Nat} {g h:List β}
include B
theorem lst_cat {G:List (List β)} (hG:LRed m G) (h2:G.length=2) (hg:g=G.getD 0 []) (hh:h=G.getD 1 []) (hm:0<m) {n:Nat} {A:List (List α)} (hA:LRed n A) (h0:0<A.length) {d o s:Nat} (hd:Lst A n d) (ho:Lst G m o) (hs:Lst (lreduce ((lcat two A).map (lrep b0 b1 m g h))) (n*m) s):d*o≤s:=by
  obtain⟨k1,_,k4⟩:=hd.v h0
  obtain⟨l1,_,l4⟩:=ho.v (by omega)
  have hs:=hs.v (by rw [lcat_dim B hG h2 hg hh hm hA];omega)
  obtain⟨s1,⟨u,s2,s3⟩,_⟩:=hs
  have hcl:∀ y∈(lcat two A).map (lrep b0 b1 m g h),y.length=n*m:=by
    intro y hy
    obtain⟨x,hx,rfl⟩:=List.mem_map.1 hy
    rw [lrep_len]
    rcases List.mem_append.1 hx with h|h
    · rw [hA.len x h]
    · obtain⟨z,hz,rfl⟩:=List.mem_map.1 h;rw [List.length_map,hA.len z hz]
  obtain⟨v,hv,rfl⟩:=(lcat_span B hm hA.len u).1 (((lreduce_red hcl).2.1 u).1 s2)
  have key:∀ k:Nat,vwt k v*o≤vwt (k*m) (vrep b0 b1 m g h v):=by
    intro k
    induction k with
    | zero=>simp [vwt]
    | succ k ih =>
      rw [Nat.succ_mul,vwt_succ k v,vwt_add]
      by_cases hz:v k=Fl.zero
      · rw [if_pos hz,Nat.add_zero];exact Nat.le_trans ih (Nat.le_add_right _ _)
      · rw [if_neg hz,Nat.succ_mul]
        refine Nat.add_le_add ih ?_
        have e:vwt m (vdr (k*m) (vrep b0 b1 m g h v))=vwt m (va (vs (b0 (v k)) (toV g)) (vs (b1 (v k)) (toV h))):=by
          refine vwt_cong m fun j hj=>?_
          unfold vdr vrep va vs toV
          rw [Nat.add_comm j,Nat.mul_comm k m,Nat.mul_add_div hm,Nat.div_eq_of_lt hj,Nat.add_zero,Nat.mul_add_mod,Nat.mod_eq_of_lt hj]
        have hsp:LSpan G (va (vs (b0 (v k)) (toV g)) (vs (b1 (v k)) (toV h))):=by
          refine Span.add (Span.smul _ ?_) (Span.smul _ ?_)
          · rw [hg];exact LSpan.mem (getD_mem (by omega))
          · rw [hh];exact LSpan.mem (getD_mem (by omega))
        rw [e]
        refine l4 _ hsp fun hz0=>hz ?_
        have hz1:=vwt_zero.1 hz0
        have p:=vrep_piv B hG h2 hg hh v k
        have hp0:lpiv g<m:=by rw [hg];exact hG.piv.2 _ (getD_mem (by omega))
        have hp1:lpiv h<m:=by rw [hh];exact hG.piv.2 _ (getD_mem (by omega))
        have q:∀ j,j<m→vrep b0 b1 m g h v (k*m+j)=Fl.zero:=by
          intro j hj
          have:=hz1 j hj
          unfold vrep
          rw [Nat.mul_comm k m,Nat.mul_add_div hm,Nat.div_eq_of_lt hj,Nat.add_zero,Nat.mul_add_mod,Nat.mod_eq_of_lt hj]
          exact this
        exact B.inj _ _ (by rw [B.zero0,←p.1];exact q _ hp0) (by rw [B.zero1,←p.2];exact q _ hp1)
  have hw:vwt n v≠0:=by
    intro hz
    have hz':=vwt_zero.1 hz
    have:vwt (n*m) (vrep b0 b1 m g h v)=0:=vwt_zero.2 fun j hj=>by
      have hj':j / m<n:=Nat.div_lt_of_lt_mul (by rw [Nat.mul_comm];exact hj)
      unfold vrep
      rw [hz' _ hj',B.zero0,B.zero1,Fl.zero_mul,Fl.zero_mul,Fl.add_zero]
    omega
  have h5:=k4 v hv hw
  have h6:=key n
  have h7:d*o≤vwt n v*o:=Nat.mul_le_mul_right o h5
  omega
end
end
end Go.Sim

namespace Go.Sim
open Go Go.Proofs
section
variable {α:Type} [Fl α] [DecidableEq α] {cd:α→Nat} {p e b c q:Nat} {blk:AB} {H:AH}
def wct (ws:List (List α)) (j:Nat):Nat:=(ws.filter fun x=>decide (lwt x=j)).length
theorem wct_le (ws:List (List α)) (j:Nat):wct ws j≤ws.length:=List.length_filter_le _ _
theorem wct_take {ws:List (List α)} {k:Nat} (hk:k<ws.length) (j:Nat):wct (ws.take (k+1)) j=wct (ws.take k) j+if lwt (ws.getD k [])=j then 1 else 0:=by
  unfold wct
  rw [List.take_succ_eq_append_getElem hk,List.filter_append,List.length_append,getD_at hk]
  congr 1
  by_cases h:lwt ws[k]=j<;>simp [h]
theorem weights_c (Q:FQ α cd p e q blk) {v:Value} {n k:Nat} {A:List (List α)} (hv:RowR H v (evr cd A)) (hA:LRed n A) (hk:A.length=k) (hqk:q ^ k≤4096) (hn:n≤1000) :
    FN Tryz.prog 137 [codv q n v] H (fun r H'=>Pre H H'∧∃ w ws,r=.tuple [w,nv 0].toArray∧Row H' w (tab (n+1) fun j=>nv (wct ws j))∧Wds A n q ws):=by
  have F:=Q.ok 0
  refine g137_of ?_
  unfold g137
  have ho:=hv.one'
  have hX:=Pre.new H [.cells [nv q,nv n,v] 29 none false]
  simp (disch:=omega) only [zA,zB,zC,zD,zF,zG,zH,↓reduceIte,ho]
  refine FZ.mono (words_c Q (hv.pre hX) hA hk hqk hn) ?_
  rintro _ H2 ⟨hp2,w,ws,rfl,hw,hW⟩
  have g2:H2[H.length]? = some (.cells [nv q,nv n,v] 29 none false):=hp2.get (by simp)
  have hmk:8*(n+1)≤281474976710656:=by omega
  simp (disch:=omega) only [zA,zB,zC,zD,zF,zG,zH,↓reduceIte,g2,hmk,xnew_makeN]
  obtain⟨vs,hvs,hvl,hvr⟩:=hw.open
  obtain⟨vl,_,_,_⟩:=hvs.allV
  have hlt:H.length<H2.length:=get_lt g2
  have hW4:ws.length≤4096:=by rw [hW.len,hk];exact hqk
  refine loopV1.nat ws.length (fun i j H'=>j=nv i∧Pre H2 H'∧H'[H2.length]? = some (.cells (tab (n+1) fun j=>nv (wct (ws.take i) j)) 3 none false)) ⟨rfl,Pre.new _ _,?_⟩ ?_ ?_
  · rw [zeros_tab];simp [wct]
  · rintro i _ H4 hi ⟨rfl,hp4,hb⟩ J hJ
    obtain⟨vl4,vi4,vd4,_⟩:=(hvs.pre hp4).allV
    have hi1:i<vs.length:=by omega
    have hx:=hW.mem _ (getD_mem (d:=[]) hi)
    rw [hvl] at vl4
    simp (disch:=omega) only [zA,zB,zC,zD,zF,zG,zH,↓reduceIte,vl4,hi,hi1,vi4,vd4]
    refine FZ.use (weight_c F ((hvr i hi).pre hp4) (by rw [hx.1];exact hn)) ?_
    obtain⟨t,ht⟩:∃ t,t=lwt (ws.getD i []):=⟨_,rfl⟩
    have htn:t<n+1:=by
      have:=lwt_le (ws.getD i [])
      rw [hx.1] at this;omega
    rw [←ht]
    have ld:loadB none (some (.cells (tab (n+1) fun j=>nv (wct (ws.take i) j)) 3 none false)) t=some (nv (wct (ws.take i) t)):=tab_ld2 htn
    have hwt:=wct_le (ws.take i) t
    have hwt4:wct (ws.take i) t≤4096:=Nat.le_trans hwt (by rw [List.length_take];omega)
    have st:=tab_st (k:=t) (v:=nv (wct (ws.take i) t+1)) (g:=fun j=>nv (wct (ws.take (i+1)) j)) hb htn rfl rfl (by rw [wct_take hi,if_pos ht.symm]) (fun j hj hne=>by rw [wct_take hi,if_neg (fun h=>hne (by omega))];rfl)
    simp (disch:=omega) only [zA,zB,zC,zD,zF,zG,zH,↓reduceIte,ld,htn,hb,st]
    exact hJ _ _ ⟨rfl,hp4.set (Nat.le_refl _) _,List.getElem?_set_self (get_lt hb)⟩
  · rintro _ H4 ⟨rfl,hp4,hb⟩ J
    obtain⟨vl4,_,_,_⟩:=(hvs.pre hp4).allV
    rw [hvl] at vl4
    simp (disch:=omega) only [zA,zB,zC,zD,zF,zG,zH,↓reduceIte,vl4]
    rw [List.take_of_length_le (Nat.le_refl _)] at hb
    exact⟨hX.trans (hp2.trans hp4),_,ws,rfl,Row.of hb (by rw [tab_len]) (Nat.le_refl _),hW⟩
theorem lst_of {A:List (List α)} {n q d:Nat} {ws:List (List α)} (hW:Wds A n q ws) (hA:LRed n A) (h1:∀ j,0<j→j<d→wct ws j=0) (h2:(0<d∧0<wct ws d)∨(n<d)):Lst A n (if d≤n then d else 0):=by
  have hpos:∀ v:Vc α,LSpan A v→0<wct ws (vwt n v):=by
    intro v hs
    obtain⟨x,hx,rfl⟩:=hW.all _ hs
    exact List.length_pos_of_mem (List.mem_filter.2 ⟨hx,by rw [lwt_vwt n x (hW.mem _ hx).1];simp⟩)
  have hlow:∀ v:Vc α,LSpan A v→vwt n v≠0→d≤vwt n v:=by
    intro v hs h0
    refine Nat.le_of_not_lt fun hlt=>?_
    have:=hpos v hs
    rw [h1 _ (by omega) hlt] at this
    omega
  by_cases hd:d≤n
  · rw [if_pos hd]
    rcases h2 with ⟨hd0,h2⟩|h2
    · refine .inr ⟨hd0,?_,hlow⟩
      obtain⟨x,hx⟩:=List.exists_mem_of_length_pos h2
      obtain⟨hx1,hx2⟩:=List.mem_filter.1 hx
      have hx3:lwt x=d:=by simpa using hx2
      exact⟨toV x,(hW.mem _ hx1).2,by rw [←lwt_vwt n x (hW.mem _ hx1).1];exact hx3⟩
    · omega
  · rw [if_neg hd]
    refine .inl ⟨?_,rfl⟩
    cases A with
    | nil=>rfl
    | cons a A =>
      exfalso
      have ha:a.length=n:=hA.len a (by simp)
      have hp:=hA.piv.2 a (by simp)
      have h3:vwt n (toV a)≠0:=fun h=>lpiv_ne a (by rw [ha];exact hp) (vwt_zero.1 h _ hp)
      have:=hlow _ (LSpan.mem (by simp)) h3
      have:=vwt_le (toV a) n
      omega
theorem distance_c (Q:FQ α cd p e q blk) {v:Value} {n k:Nat} {A:List (List α)} (hv:RowR H v (evr cd A)) (hA:LRed n A) (hk:A.length=k) (hqk:q ^ k≤4096) (hn:n≤1000) :
    FN Tryz.prog 82 [codv q n v] H (fun r H'=>Pre H H'∧∃ d er,r=.tuple [nv d,er].toArray∧Lst A n d):=by
  refine g82_of ?_
  unfold g82
  have ho:=hv.one'
  have hX:=Pre.new H [.cells [nv q,nv n,v] 29 none false]
  simp (disch:=omega) only [zA,zB,zC,zD,zF,zG,zH,↓reduceIte,ho]
  refine FZ.mono (weights_c Q (hv.pre hX) hA hk hqk hn) ?_
  rintro _ H2 ⟨hp2,w,ws,rfl,hw,hW⟩
  have g2:H2[H.length]? = some (.cells [nv q,nv n,v] 29 none false):=hp2.get (by simp)
  simp (disch:=omega) only [zA,zB,zC,zD,zF,zG,zH,↓reduceIte,g2]
  refine loopV1.nat n (fun i j H'=>j=nv (i+1)∧H'=H2∧∀ j,0<j→j<i+1→wct ws j=0) ⟨rfl,rfl,fun j h1 h2=>by omega⟩ ?_ ?_
  · rintro i _ _ hi ⟨rfl,rfl,hz⟩ J hJ
    obtain⟨_,wi,wd,_⟩:=hw.all 0
    have hi1:i+1≤n:=by omega
    have hi2:i+1<(List.range (n+1)).length:=by simp;omega
    have e1:(List.range (n+1)).getD (i+1) 0=i+1:=by simp [List.getD_eq_getElem?_getD,hi]
    simp (disch:=omega) only [zA,zB,zC,zD,zF,zG,zH,↓reduceIte,g2,hi1,wi,wd,hi2,e1]
    by_cases h:0<wct ws (i+1)
    · simp (disch:=omega) only [zA,zB,zC,zD,zF,zG,zH,↓reduceIte,h]
      have:=lst_of (d:=i+1) hW hA hz (.inl ⟨by omega,h⟩)
      rw [if_pos hi1] at this
      exact⟨hX.trans hp2,_,_,rfl,this⟩
    · have h':=h
      simp (disch:=omega) only [zA,zB,zC,zD,zF,zG,zH,↓reduceIte,h]
      refine hJ _ _ ⟨rfl,rfl,fun j h1 h2=>?_⟩
      by_cases hj:j=i+1
      · subst hj;omega
      · exact hz j h1 (by omega)
  · rintro _ _ ⟨rfl,rfl,hz⟩ J
    have hn1:¬n+1≤n:=by omega
    simp (disch:=omega) only [zA,zB,zC,zD,zF,zG,zH,↓reduceIte,g2,hn1]
    have:=lst_of (d:=n+1) hW hA hz (.inr (by omega))
    rw [if_neg hn1] at this
    exact⟨hX.trans hp2,_,_,rfl,this⟩
theorem least_c (Q:FQ α cd p e q blk) {v:Value} {n k:Nat} {A:List (List α)} (hv:RowR H v (evr cd A)) (hA:LRed n A) (hk:A.length=k) (hqk:q ^ k≤4096) (hn:n≤1000) :
    FN Tryz.prog 35 [codv q n v] H (fun r H'=>Pre H H'∧∃ d,r=nv d∧Lst A n d):=by
  refine g35_of ?_
  unfold g35
  have ho:=hv.one'
  have hX:=Pre.new H [.cells [nv q,nv n,v] 29 none false]
  simp (disch:=omega) only [zA,zB,zC,zD,zF,zG,zH,↓reduceIte,ho]
  refine FZ.mono (distance_c Q (hv.pre hX) hA hk hqk hn) ?_
  rintro _ H2 ⟨hp2,d,er,rfl,hd⟩
  simp (disch:=omega) only [zA,zB,zC,zD,zF,zG,zH,↓reduceIte]
  exact⟨hX.trans hp2,d,rfl,hd⟩
end
end Go.Sim
