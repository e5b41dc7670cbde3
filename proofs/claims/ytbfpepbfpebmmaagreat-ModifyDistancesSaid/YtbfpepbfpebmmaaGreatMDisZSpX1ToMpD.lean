/- Part of the proof: ZSpX1, ZSpX2, ZSpX3, ZSpX5, ZSpX7, MoU, MoW, MoZ, MpB, MpC, MpD. -/
import Derived.Test.YtbfpepbfpebmmaaGreatMDisZSpAToZSpU
import Derived.Test.YtbfpepbfpebmmaaGreatMDisMoAToMoJ
import Derived.Test.YtbfpepbfpebmmaaGreatMDisMoTToMoN
set_option linter.all false
namespace Go.Sim
section
variable {α:Type} [Fl α] [DecidableEq α]
open Fl
def dotn:Nat→Vc α→Vc α→α
  | 0,_,_=>zero
  | k+1,u,w=>add (dotn k u w) (mul (u k) (w k))
theorem ldotk_dotn (xs ys:List α):∀ k,ldotk xs ys k=dotn k (toV xs) (toV ys)
  | 0=>rfl
  | k+1=>by rw [ldotk,dotn,ldotk_dotn xs ys k];rfl
theorem dotn_cong {u w u' w':Vc α}:∀ k,(∀ j,j<k→mul (u j) (w j)=mul (u' j) (w' j))→dotn k u w=dotn k u' w'
  | 0,_=>rfl
  | k+1,h=>by rw [dotn,dotn,dotn_cong k (fun j hj=>h j (by omega)),h k (by omega)]
theorem dotn_comm (u w:Vc α) (k:Nat):dotn k u w=dotn k w u:=dotn_cong k fun _ _=>mul_comm _ _
theorem dotn_va (u u' w:Vc α):∀ k,dotn k (va u u') w=add (dotn k u w) (dotn k u' w)
  | 0=>(add_zero _).symm
  | k+1=>by
    rw [dotn,dotn,dotn,dotn_va u u' w k]
    show add _ (mul (add (u k) (u' k)) (w k))=_
    rw [Fl.add_mul,Fl.add_swap]
theorem dotn_vs (a:α) (u w:Vc α):∀ k,dotn k (vs a u) w=mul a (dotn k u w)
  | 0=>(Fl.mul_zero _).symm
  | k+1=>by
    rw [dotn,dotn,dotn_vs a u w k]
    show add _ (mul (mul a (u k)) (w k))=_
    rw [mul_assoc,mul_add]
theorem dotn_vz (w:Vc α):∀ k,dotn k vz w=zero
  | 0=>rfl
  | k+1=>by
    rw [dotn,dotn_vz w k]
    show add zero (mul zero (w k))=zero
    rw [Fl.zero_mul,add_zero]
theorem dotn_var (w u u':Vc α) (k:Nat):dotn k w (va u u')=add (dotn k w u) (dotn k w u'):=by rw [dotn_comm,dotn_va,dotn_comm u,dotn_comm u']
theorem dotn_vsr (a:α) (w u:Vc α) (k:Nat):dotn k w (vs a u)=mul a (dotn k w u):=by rw [dotn_comm,dotn_vs,dotn_comm u]
theorem dotn_vzr (w:Vc α) (k:Nat):dotn k w vz=zero:=by rw [dotn_comm,dotn_vz]
def vun (p:Nat):Vc α:=fun j=>if j=p then Fl.one else zero
theorem dotn_un_ge (w:Vc α) (p:Nat):∀ k,k≤p→dotn k w (vun p)=zero
  | 0,_=>rfl
  | k+1,h=>by
    rw [dotn,dotn_un_ge w p k (by omega),vun,if_neg (by omega),Fl.mul_zero,add_zero]
theorem dotn_un (w:Vc α) (p:Nat):∀ k,p<k→dotn k w (vun p)=w p
  | 0,h=>by omega
  | k + 1,h=>by
    rw [dotn]
    by_cases hp:k=p
    · subst hp
      rw [dotn_un_ge w k k (Nat.le_refl _),vun,if_pos rfl,mul_one,Fl.zero_add]
    · rw [dotn_un w p k (by omega),vun,if_neg hp,Fl.mul_zero,add_zero]
theorem comb_dot (c:Nat→α) (R:Nat→Vc α) (j:Nat):∀ m,comb c R m j=dotn m c (fun i=>R i j)
  | 0=>rfl
  | k+1=>by
    show add (comb c R k j) (mul (c k) (R k j))=_
    rw [comb_dot c R j k];rfl
theorem dotn_comb (w:Vc α) (c:Nat→α) (R:Nat→Vc α) (n:Nat):∀ m,dotn n w (comb c R m)=dotn m c (fun i=>dotn n w (R i))
  | 0=>dotn_vzr w n
  | k+1=>by rw [comb,dotn_var,dotn_vsr,dotn_comb w c R n k];rfl
theorem comb_span (c:Nat→α) (R:Nat→Vc α):∀ m,Span m R (comb c R m)
  | 0=>.zero
  | k+1=>.step _ ((comb_span c R k).mono fun i hi=>Span.row (by omega)) (by omega)
theorem comb_unit' (R:Nat→Vc α) (c:α) (i:Nat) (m:Nat) (hi:i<m):comb (fun k=>if k=i then c else zero) R m=vs c (R i):=
  comb_unit R c i _ m hi (if_pos rfl) (fun k _ hk=>if_neg hk)
theorem span_comb {m:Nat} {R:Nat→Vc α} {v:Vc α} (h:Span m R v):∃ c,v=comb c R m:=by
  induction h with
  | zero=>exact⟨fun _=>zero,(comb_zero R _ _ fun _ _=>rfl).symm⟩
  | @step w i c _ hi ih =>
    obtain⟨d,rfl⟩:=ih
    refine⟨fun k=>add (d k) (if k=i then c else zero),?_⟩
    rw [comb_add R d (fun k=>if k=i then c else zero) _ m (fun _ _=>rfl),comb_unit' R c i m hi]
theorem toV_lcombk {n:Nat} {xss:List (List α)} {cs:List α} (hl:∀ x∈xss,x.length=n):∀ k,k≤xss.length→toV (lcombk n xss cs k)=comb (toV cs) (rowV xss) k
  | 0,_=>toV_zero n
  | k+1,hk=>by
    have h1:=lcombk_length (cs:=cs) hl k (by omega)
    rw [lcombk,toV_lmore (by rw [h1,row_len hl (by omega)]),toV_lcombk hl k (by omega)]
    rfl
theorem lcomb_span {n:Nat} {xss:List (List α)} {cs:List α} (hl:∀ x∈xss,x.length=n):LSpan xss (toV (lcomb n xss cs)):=by
  rw [lcomb,toV_lcombk hl _ (Nat.le_refl _)]
  exact comb_span _ _ _
theorem sub_eq {a b:α} (h:add a (mul (neg Fl.one) b)=zero):a=b:=by
  have h1:=congrFun (vneg (fun _:Nat=>b)) 0
  have h2:add b (mul (neg Fl.one) b)=zero:=h1
  have h3:add (mul (neg Fl.one) b) a=add (mul (neg Fl.one) b) b:=by rw [add_comm _ a,add_comm _ b,h,h2]
  exact Fl.add_left_cancel h3
def Nul (n:Nat) (S:Vc α→Prop) (u:Vc α):Prop:=(∀ j,n≤j→u j=zero)∧∀ w,S w→dotn n w u=zero
theorem Nul.vz {n:Nat} {S:Vc α→Prop}:Nul n S vz:=⟨fun _ _=>rfl,fun w _=>dotn_vzr w n⟩
theorem Nul.va {n:Nat} {S:Vc α→Prop} {u v:Vc α} (hu:Nul n S u) (hv:Nul n S v):Nul n S (va u v):=
  ⟨fun j hj=>by show add (u j) (v j)=zero;rw [hu.1 j hj,hv.1 j hj,add_zero],fun w hw=>by rw [dotn_var,hu.2 w hw,hv.2 w hw,add_zero]⟩
theorem Nul.vs {n:Nat} {S:Vc α→Prop} {u:Vc α} (a:α) (hu:Nul n S u):Nul n S (vs a u):=
  ⟨fun j hj=>by show mul a (u j)=zero;rw [hu.1 j hj,Fl.mul_zero],fun w hw=>by rw [dotn_vsr,hu.2 w hw,Fl.mul_zero]⟩
theorem Nul.cong {n:Nat} {S S':Vc α→Prop} (h:∀ w,S w↔S' w) (u:Vc α):Nul n S u↔Nul n S' u:=
  ⟨fun hu=>⟨hu.1,fun w hw=>hu.2 w ((h w).2 hw)⟩,fun hu=>⟨hu.1,fun w hw=>hu.2 w ((h w).1 hw)⟩⟩
theorem Nul.of {n m:Nat} {R:Nat→Vc α} {u:Vc α} (h0:∀ j,n≤j→u j=zero) (h:∀ i,i<m→dotn n (R i) u=zero):Nul n (Span m R) u:=by
  refine⟨h0,fun w hw=>?_⟩
  induction hw with
  | zero=>exact dotn_vz u n
  | step c _ hi ih=>rw [dotn_va,dotn_vs,ih,h _ hi,Fl.mul_zero,add_zero]
def nuV (R:Nat→Vc α) (P:Nat→Nat) (m c:Nat):Vc α:=va (vun c) (comb (fun i=>neg (R i c)) (fun i=>vun (P i)) m)
section
variable {n m:Nat} {R:Nat→Vc α} {P:Nat→Nat}
theorem Red.inj (h:Red m R P) {i j:Nat} (hi:i<m) (hj:j<m) (he:P i=P j):i=j:=by
  rcases Nat.lt_trichotomy i j with h1|h1|h1
  · have:=h.inc i j h1 hj;omega
  · exact h1
  · have:=h.inc j i h1 hi;omega
theorem Red.delta (h:Red m R P) {i k:Nat} (hi:i<m) (hk:k<m):R i (P k)=vun i k:=by
  unfold vun
  by_cases he:k=i
  · rw [if_pos he,he,h.one i hi]
  · rw [if_neg he];exact h.alone k i hk hi he
theorem nu_dot (hP:∀ i,i<m→P i<n) {c:Nat} (hc:c<n) (w:Vc α):dotn n w (nuV R P m c)=add (w c) (dotn m (fun i=>neg (R i c)) (fun i=>w (P i))):=by
  rw [nuV,dotn_var,dotn_un w c n hc,dotn_comb]
  congr 1
  exact dotn_cong m fun i hi=>by rw [dotn_un w (P i) n (hP i hi)]
theorem nu_free {c d:Nat} (hd:∀ i,i<m→P i≠d):nuV R P m c d=vun c d:=by
  show add (vun c d) (comb _ _ m d)=_
  rw [comb_dot,dotn_cong (u':=vz) (w':=vz) m fun i hi=>by rw [vun,if_neg (Ne.symm (hd i hi)),Fl.mul_zero];exact (Fl.mul_zero _).symm,dotn_vz,add_zero]
theorem nu_span (h:Red m R P) (hP:∀ i,i<m→P i<n) (hR:∀ i j,i<m→n≤j→R i j=zero) {fr:List Nat} (hn:fr.Nodup) (hf:∀ c,c∈fr↔c<n∧∀ i,i<m→P i≠c) {N:List (List α)} (hl:N.length=fr.length) (hN:∀ k,k<fr.length→rowV N k=nuV R P m (fr.getD k 0)) (u:Vc α) :
    LSpan N u↔Nul n (Span m R) u:=by
  have hfr:∀ k,k<fr.length→fr.getD k 0<n∧∀ i,i<m→P i≠fr.getD k 0:=fun k hk=>(hf _).1 (getD_mem hk)
  have fwd:∀ u,LSpan N u→Nul n (Span m R) u:=by
    intro u hu
    refine hu.sub Nul.vz (fun _ _=>Nul.va) (fun c _=>Nul.vs c) fun x hx=>?_
    obtain⟨k,hk,rfl⟩:=List.mem_iff_getElem.1 hx
    have hk':k<fr.length:=by omega
    obtain⟨h1,h2⟩:=hfr k hk'
    rw [←rowV_at hk,hN k hk']
    refine Nul.of (fun j hj=>?_) fun i hi=>?_
    · rw [nu_free (fun i hi=>by have:=hP i hi;omega),vun,if_neg (by omega)]
    · rw [nu_dot hP h1,dotn_cong (u':=fun i=>neg (R i (fr.getD k 0))) (w':=vun i) m (fun l hl=>by rw [h.delta hi hl]),dotn_un _ i m hi,add_neg]
  refine⟨fwd u,fun hu=>?_⟩
  have hs:LSpan N (comb (fun k=>u (fr.getD k 0)) (rowV N) N.length):=comb_span _ _ _
  generalize he:comb (fun k=>u (fr.getD k 0)) (rowV N) N.length=s at hs
  have hsn:=fwd s hs
  have hfree:∀ k,k<fr.length→s (fr.getD k 0)=u (fr.getD k 0):=by
    intro k hk
    rw [←he,comb_dot,dotn_cong (u':=fun k=>u (fr.getD k 0)) (w':=vun k),dotn_un _ k _ (by omega)]
    intro l hl'
    have hl2:l<fr.length:=by omega
    congr 1
    rw [hN l hl2,nu_free (hfr k hk).2]
    unfold vun
    by_cases hlk:l=k
    · rw [if_pos hlk,if_pos (by rw [hlk])]
    · rw [if_neg hlk,if_neg (nodup_getD hn hk hl2 (Ne.symm hlk))]
  have hz:∀ j,j<n→(∀ i,i<m→P i≠j)→s j=u j:=by
    intro j hj hp
    obtain⟨k,hk,rfl⟩:=List.mem_iff_getElem.1 ((hf j).2 ⟨hj,hp⟩)
    have:=hfree k hk
    simpa [List.getD_eq_getElem?_getD,List.getElem?_eq_getElem hk] using this
  have hpv:∀ i,i<m→add (u (P i)) (mul (neg Fl.one) (s (P i)))=zero:=by
    intro i hi
    have ht:=(hu.va (hsn.vs (neg Fl.one))).2 (R i) (Span.row hi)
    rw [dotn_cong (u':=va u (vs (neg Fl.one) s)) (w':=vun (P i)),dotn_un _ _ n (hP i hi)] at ht
    · exact ht
    intro j hj
    by_cases hjp:∃ k,k<m∧P k=j
    · obtain⟨k,hk,rfl⟩:=hjp
      rw [h.delta hi hk,mul_comm]
      congr 1
      unfold vun
      by_cases hki:k=i
      · rw [if_pos hki,if_pos (by rw [hki])]
      · rw [if_neg hki,if_neg (fun e=>hki (h.inj hk hi e))]
    · have hp:∀ i,i<m→P i≠j:=fun k hk hkj=>hjp ⟨k,hk,hkj⟩
      have:va u (vs (neg Fl.one) s) j=zero:=by
        show add (u j) (mul (neg Fl.one) (s j))=zero
        rw [hz j hj hp]
        exact congrFun (vneg u) j
      rw [this,Fl.mul_zero,Fl.zero_mul]
  have:u=s:=by
    funext j
    by_cases hj:j<n
    · by_cases hjp:∃ k,k<m∧P k=j
      · obtain⟨k,hk,rfl⟩:=hjp
        exact sub_eq (hpv k hk)
      · exact (hz j hj fun k hk hkj=>hjp ⟨k,hk,hkj⟩).symm
    · rw [hu.1 j (by omega),hsn.1 j (by omega)]
  rw [this]
  exact hs
end
end
end Go.Sim

namespace Go.Sim
section
variable {α:Type} [Fl α] [DecidableEq α]
open Fl
theorem nodup_sub_len {β:Type} [DecidableEq β]:∀ (l l':List β),l.Nodup→(∀ x∈l,x∈l')→l.length≤l'.length
  | [],_,_,_=>Nat.zero_le _
  | x :: l,l',hn,hs=>by
    have hn':=List.nodup_cons.1 hn
    have hx:x∈l':=hs x (by simp)
    have h:=nodup_sub_len l (l'.erase x) hn'.2 (fun y hy=>(List.mem_erase_of_ne (fun e=>hn'.1 (by rw [←e];exact hy))).2 (hs y (by simp [hy])))
    have h2:=List.length_erase_of_mem hx
    have h3:0<l'.length:=List.length_pos_iff.2 (fun e=>by rw [e] at hx;simp at hx)
    simp only [List.length_cons]
    omega
theorem lclr_span {n:Nat} {B:List (List α)} {v:List α} (hB:LRed n B) (hv:v.length=n):lpiv (lclr B v)=(lclr B v).length↔LSpan B (toV v):=by
  have hl:=hB.piv.1
  have hwl:=lclr_length hl hv
  obtain⟨s,hs1,hs2⟩:=lclrk_span hl hv B.length (Nat.le_refl _)
  have hz:=lclrk_zero hB hv B.length (Nat.le_refl _)
  change toV (lclr B v)=_ at hs2
  change ∀ i,i<B.length→toV (lclr B v) _=zero at hz
  constructor
  · intro h0
    have hw0:toV (lclr B v)=vz:=by
      funext j
      by_cases hj:j<(lclr B v).length
      · exact lpiv_zero _ _ (by omega)
      · exact toV_out (by omega)
    have h:va (va (toV v) s) (vs (neg Fl.one) s)=toV v:=by rw [va_assoc,vneg,va_zero]
    rw [←h,←hs2,hw0,zero_va]
    exact Span.smul _ hs1
  · intro hv2
    have hw:LSpan B (toV (lclr B v)):=by rw [hs2];exact Span.add hv2 hs1
    have hc:=hB.red.coord hw
    have h0:toV (lclr B v)=vz:=by
      rw [hc]
      exact comb_zero _ _ _ fun i hi=>hz i hi
    have hle:=lpiv_le (lclr B v)
    by_cases hlt:lpiv (lclr B v)<(lclr B v).length
    · exact absurd (congrFun h0 _) (lpiv_ne _ hlt)
    · omega
theorem lhas_iff {n:Nat} {rows:List (List α)} {v:List α} (hl:∀ x∈rows,x.length=n) (hv:v.length=n):lhas rows v=true↔LSpan rows (toV v):=by
  obtain⟨h1,h2,_⟩:=lreduce_red hl
  rw [lhas,decide_eq_true_iff,←h2,←lclr_span h1 hv,lclr_length h1.piv.1 hv,hv]
theorem lins_length {p:Nat} {w:List α}:∀ l:List (List α),(lins p w l).length=l.length+1
  | []=>rfl
  | x :: l=>by
    unfold lins
    split
    · simp
    · simp [lins_length l]
theorem lput_length (B:List (List α)) (v:List α):(lput B v).length=if lpiv (lclr B v)=(lclr B v).length then B.length else B.length+1:=by
  unfold lput
  simp only
  split
  · rfl
  · rw [lputF_lins,lins_length]
theorem lreduce_snoc (rows:List (List α)) (v:List α):lreduce (rows++[v])=lput (lreduce rows) v:=by simp [lreduce,List.foldl_append]
theorem has_count {n:Nat} {rows:List (List α)} {v:List α} (hl:∀ x∈rows,x.length=n) (hv:v.length=n):decide ((lreduce (rows++[v])).length=(lreduce rows).length)=lhas rows v:=by
  obtain⟨h1,h2,_⟩:=lreduce_red hl
  rw [lreduce_snoc,lput_length,lhas,hv,lclr_length h1.piv.1 hv]
  split
  · simp [*]
  · simp [*]
theorem lreduce_indep {n:Nat} {rows:List (List α)} (hl:∀ x∈rows,x.length=n) (h:∀ k,k<rows.length→¬LSpan (rows.take k) (toV (rows.getD k []))):(lreduce rows).length=rows.length:=by
  have key:∀ k,k≤rows.length→(lreduce (rows.take k)).length=k:=by
    intro k
    induction k with
    | zero=>intro _;rfl
    | succ k ih =>
      intro hk
      have hlk:∀ x∈rows.take k,x.length=n:=fun x hx=>hl x (List.mem_of_mem_take hx)
      have hv:=row_len hl (show k<rows.length by omega)
      have he:rows.take (k+1)=rows.take k++[rows.getD k []]:=by
        rw [List.take_succ_eq_append_getElem (by omega),getD_at (by omega)]
      have hh:=h k (by omega)
      rw [←lhas_iff hlk hv,←has_count hlk hv,←he] at hh
      simp only [decide_eq_true_iff] at hh
      rw [he,lreduce_snoc,lput_length] at hh ⊢
      have:=ih (by omega)
      split
      · rename_i h1;rw [if_pos h1] at hh;exact absurd rfl hh
      · omega
  have:=key rows.length (Nat.le_refl _)
  rwa [List.take_length] at this
def vshift (m:Nat) (w:Vc α):Vc α:=fun j=>if j<m then zero else w (j-m)
def vdrop (m:Nat) (v:Vc α):Vc α:=fun j=>v (j+m)
theorem vdrop_shift (m:Nat) (w:Vc α):vdrop m (vshift m w)=w:=by
  funext j
  show (if j+m<m then zero else w (j+m-m))=w j
  rw [if_neg (by omega),Nat.add_sub_cancel]
theorem vshift_drop {m:Nat} {v:Vc α} (h:∀ j,j<m→v j=zero):vshift m (vdrop m v)=v:=by
  funext j
  unfold vshift vdrop
  split
  · rename_i hj;exact (h j hj).symm
  · congr 1;omega
theorem vshift_va (m:Nat) (u v:Vc α):vshift m (va u v)=va (vshift m u) (vshift m v):=by
  funext j
  show (if _ then _ else _)=add (if _ then _ else _) (if _ then _ else _)
  split
  · exact (add_zero _).symm
  · rfl
theorem vshift_vs (m:Nat) (c:α) (v:Vc α):vshift m (vs c v)=vs c (vshift m v):=by
  funext j
  show (if _ then _ else _)=mul c (if _ then _ else _)
  split
  · exact (Fl.mul_zero _).symm
  · rfl
theorem vshift_vz (m:Nat):vshift m (vz:Vc α)=vz:=by
  funext j
  unfold vshift;split<;>rfl
theorem toV_drop (x:List α) (m:Nat):toV (x.drop m)=vdrop m (toV x):=by
  funext j
  simp only [toV,vdrop,List.getD_eq_getElem?_getD,List.getElem?_drop,Nat.add_comm]
def ltail (m:Nat) (L:List (List α)):List (List α):=(L.filter fun l=>decide (m≤lpiv l)).map fun l=>l.drop m
theorem lpiv_drop {x:List α} {m:Nat} (h:m≤lpiv x) (hx:lpiv x<x.length):lpiv (x.drop m)=lpiv x-m:=by
  refine lpiv_eq (by rw [List.length_drop];omega) (fun j hj=>?_) ?_
  · have:=congrFun (toV_drop x m) j
    refine this.trans (lpiv_zero x (j+m) (by omega))
  · have h1:=congrFun (toV_drop x m) (lpiv x-m)
    intro h2
    have h3:=h1.symm.trans h2
    unfold vdrop at h3
    rw [Nat.sub_add_cancel h] at h3
    exact lpiv_ne x hx h3
theorem ltail_red {m n:Nat} {L:List (List α)} (h:LRed (m+n) L):LRed n (ltail m L)∧∀ u,LSpan (ltail m L) u↔LSpan L (vshift m u):=by
  have mem:∀ x∈L.filter (fun l=>decide (m≤lpiv l)),x∈L∧m≤lpiv x:=fun x hx=>by simpa using List.mem_filter.1 hx
  have at_:∀ (x:List α) j,m≤j→(x.drop m).getD (j-m) zero=x.getD j zero:=fun x j hj=>by
    have:=congrFun (toV_drop x m) (j-m)
    unfold vdrop at this
    rw [Nat.sub_add_cancel hj] at this
    exact this
  refine⟨⟨fun y hy=>?_,?_⟩,fun u=>⟨fun hu=>?_,fun hu=>?_⟩⟩
  · obtain⟨x,hx,rfl⟩:=List.mem_map.1 hy
    obtain⟨hxL,hp⟩:=mem x hx
    obtain⟨h1,h2,h3⟩:=h.row x hxL
    rw [lpiv_drop hp (by omega),at_ x _ hp]
    exact⟨by rw [List.length_drop];omega,by omega,h3⟩
  · unfold ltail
    rw [List.pairwise_map]
    refine (h.pw.filter _).imp_of_mem fun {a b} ha hb hab=>?_
    obtain⟨haL,hpa⟩:=mem a ha
    obtain⟨hbL,hpb⟩:=mem b hb
    have ra:=h.row a haL
    have rb:=h.row b hbL
    rw [lpiv_drop hpa (by omega),lpiv_drop hpb (by omega),at_ a _ hpb,at_ b _ hpa]
    exact⟨by have:=hab.1;omega,hab.2⟩
  · refine hu.sub (S:=fun u=>LSpan L (vshift m u)) ?_ (fun u v hu hv=>?_) (fun c u hu=>?_) (fun y hy=>?_)
    · show LSpan L (vshift m vz);rw [vshift_vz];exact .zero
    · show LSpan L (vshift m (va u v));rw [vshift_va];exact Span.add hu hv
    · show LSpan L (vshift m (vs c u));rw [vshift_vs];exact Span.smul _ hu
    · obtain⟨x,hx,rfl⟩:=List.mem_map.1 hy
      obtain⟨hxL,hp⟩:=mem x hx
      show LSpan L (vshift m (toV (x.drop m)))
      rw [toV_drop,vshift_drop (v:=toV x) (fun j hj=>lpiv_zero x j (by omega))]
      exact LSpan.mem hxL
  · have hc:=h.red.coord hu
    obtain⟨c,hcd⟩:∃ c:Nat→α,c=fun i=>vshift m u (lpiv (L.getD i [])):=⟨_,rfl⟩
    rw [←hcd] at hc
    have hz:∀ i,i<L.length→c i=zero∨m≤lpiv (L.getD i []):=fun i hi=>by
      rw [hcd]
      by_cases hlt:lpiv (L.getD i [])<m
      · left;show vshift m u _=zero;unfold vshift;rw [if_pos hlt]
      · right;omega
    have key:∀ k,k≤L.length→LSpan (ltail m L) (vdrop m (comb c (rowV L) k)):=by
      intro k
      induction k with
      | zero=>intro _;exact .zero
      | succ k ih =>
        intro hk
        show LSpan (ltail m L) (va (vdrop m (comb c (rowV L) k)) (vs (c k) (vdrop m (rowV L k))))
        rcases hz k (by omega) with h0|h0
        · rw [show c k=zero from h0,vs_zero,va_zero];exact ih (by omega)
        · refine Span.add (ih (by omega)) (Span.smul _ ?_)
          rw [rowV_at (show k<L.length by omega),←toV_drop]
          rw [getD_at (show k<L.length by omega)] at h0
          exact LSpan.mem (List.mem_map.2 ⟨_,List.mem_filter.2 ⟨List.getElem_mem _,by simpa using h0⟩,rfl⟩)
    have:=key L.length (Nat.le_refl _)
    rw [←hc,vdrop_shift] at this
    exact this
theorem laug_row {n:Nat} (rows:List (List α)) {j:Nat} (hj:j<n) (i:Nat):rowV (laug n rows) j i=if i<rows.length then rowV rows i j else vun j (i-rows.length):=by
  have hl:j<(laug n rows).length:=by simpa [laug] using hj
  rw [rowV_at hl]
  have he:(laug n rows)[j]=rows.map (fun r=>r.getD j zero)++lunit n j:=by simp [laug]
  rw [he]
  unfold toV
  rw [List.getD_eq_getElem?_getD]
  split
  · rename_i hi
    rw [List.getElem?_append_left (by simpa using hi)]
    simp [rowV,toV,List.getD_eq_getElem?_getD,List.getElem?_eq_getElem hi]
  · rename_i hi
    rw [List.getElem?_append_right (by simpa using Nat.le_of_not_lt hi),List.length_map,←List.getD_eq_getElem?_getD,lunit,getD_set (by simpa using hj),vun]
    split
    · rfl
    · simp [List.getD_eq_getElem?_getD,List.getElem?_replicate]
      split<;>rfl
theorem toV_row_out {n:Nat} {L:List (List α)} (hl:∀ x∈L,x.length=n) {i j:Nat} (hi:i<L.length) (hj:n≤j):rowV L i j=zero:=by
  rw [rowV_at hi];exact toV_out (by rw [hl _ (List.getElem_mem hi)];exact hj)
theorem lkernel_red {n:Nat} {rows:List (List α)} (hl:∀ x∈rows,x.length=n):LRed n (lkernel n rows)∧∀ u,LSpan (lkernel n rows) u↔Nul n (LSpan rows) u:=by
  obtain⟨h1,h2,_⟩:=lreduce_red (laug_len (n:=n) (rows:=rows) rfl)
  obtain⟨h3,h4⟩:=ltail_red h1
  refine⟨h3,fun u=>(h4 u).trans ((h2 _).trans ?_)⟩
  have hlen:(laug n rows).length=n:=by simp [laug]
  have hdot:∀ i,i<rows.length→∀ c:Vc α,dotn n c (fun j=>rowV (laug n rows) j i)=dotn n c (rowV rows i):=fun i hi c=>dotn_cong n fun j hj=>by rw [laug_row rows hj,if_pos hi]
  have htail:∀ i,∀ c:Vc α,dotn n c (fun j=>rowV (laug n rows) j (i+rows.length))=if i<n then c i else zero:=fun i c=>by
    rw [dotn_cong (u':=c) (w':=vun i) n fun j hj=>by
      rw [laug_row rows hj,if_neg (by omega),Nat.add_sub_cancel]
      congr 1
      unfold vun
      by_cases h:i=j
      · rw [if_pos h,if_pos h.symm]
      · rw [if_neg h,if_neg (Ne.symm h)]]
    split
    · rename_i h;exact dotn_un c i n h
    · rename_i h;exact dotn_un_ge c i n (by omega)
  constructor
  · intro h
    obtain⟨c,hc⟩:=span_comb h
    rw [hlen] at hc
    have hu:∀ i,u i=if i<n then c i else zero:=fun i=>by
      have h5:=congrFun hc (i+rows.length)
      rw [comb_dot,htail] at h5
      rw [←h5]
      exact (congrFun (vdrop_shift rows.length u) i).symm
    refine Nul.of (fun j hj=>by rw [hu j,if_neg (by omega)]) fun i hi=>?_
    have h6:=congrFun hc i
    rw [comb_dot,hdot i hi] at h6
    have h7:vshift rows.length u i=zero:=by unfold vshift;rw [if_pos hi]
    rw [h7,dotn_comm] at h6
    rw [h6]
    exact dotn_cong n fun j hj=>by rw [hu j,if_pos hj]
  · intro h
    have:vshift rows.length u=comb u (rowV (laug n rows)) (laug n rows).length:=by
      rw [hlen]
      funext i
      rw [comb_dot]
      by_cases hi:i<rows.length
      · rw [hdot i hi,dotn_comm]
        unfold vshift
        rw [if_pos hi]
        exact (h.2 _ (Span.row hi)).symm
      · have hi':i=(i-rows.length)+rows.length:=by omega
        generalize i-rows.length=k at hi'
        subst hi'
        rw [htail]
        unfold vshift
        rw [if_neg hi,Nat.add_sub_cancel]
        split
        · rfl
        · exact h.1 k (by omega)
    rw [this]
    exact comb_span _ _ _
end
end Go.Sim

namespace Go.Sim
section
variable {α:Type} [Fl α] [DecidableEq α]
open Fl
theorem RedTo.red {n:Nat} {M:List (List α)} {P:List Nat} {w:Nat} (h:RedTo n w M P):Red P.length (rowV M) (fun i=>P.getD i 0):=
  ⟨h.inc,h.one,fun i k hi hk hne=>h.alone i k hi (by have:=h.len;omega) (Ne.symm hne),h.lead⟩
end
end Go.Sim

namespace Go.Sim
section
variable {α:Type} [Fl α] [DecidableEq α]
open Fl
theorem filter_split {β:Type} (p:β→Bool):∀ l:List β,l.length=(l.filter p).length+(l.filter fun x=>!p x).length
  | []=>rfl
  | x :: l=>by
    have:=filter_split p l
    cases h:p x<;>simp [List.filter_cons,h]<;>omega
def frees (n:Nat) (P:List Nat):List Nat:=(List.range n).filter fun c=>decide (c∉P)
def lnullk (n:Nat) (M:List (List α)) (P:List Nat) (c:Nat):Nat→List α
  | 0=>lunit n c
  | k+1=>(lnullk n M P c k).set (P.getD k 0) (neg (ent M k c))
def lnulls (n:Nat) (M:List (List α)) (P:List Nat):List (List α):=(frees n P).map fun c=>lnullk n M P c P.length
theorem lnullk_length (n:Nat) (M:List (List α)) (P:List Nat) (c:Nat):∀ k,(lnullk n M P c k).length=n
  | 0=>by simp [lnullk,lunit]
  | k+1=>by simp [lnullk,lnullk_length n M P c k]
theorem lnulls_len (n:Nat) (M:List (List α)) (P:List Nat):∀ x∈lnulls n M P,x.length=n:=by
  intro x hx
  obtain⟨c,_,rfl⟩:=List.mem_map.1 hx
  exact lnullk_length _ _ _ _ _
theorem toV_set {xs:List α} {p:Nat} {a:α} (hp:p<xs.length):toV (xs.set p a)=fun j=>if j=p then a else toV xs j:=by
  funext j
  exact getD_set hp
theorem toV_unit {n c:Nat} (hc:c<n):toV (lunit (α:=α) n c)=vun c:=by
  unfold lunit
  rw [toV_set (by simpa using hc),toV_zero]
  rfl
theorem mem_getD {P:List Nat} {c:Nat}:c∈P↔∃ i,i<P.length∧P.getD i 0=c:=by
  rw [List.mem_iff_getElem]
  exact⟨fun ⟨i,hi,h⟩=>⟨i,hi,by rw [List.getD_eq_getElem?_getD,List.getElem?_eq_getElem hi];exact h⟩,fun ⟨i,hi,h⟩=>⟨i,hi,by rw [List.getD_eq_getElem?_getD,List.getElem?_eq_getElem hi] at h;exact h⟩⟩
section
variable {n:Nat} {M:List (List α)} {P:List Nat}
theorem lnullk_toV (h:RedTo n n M P) {c:Nat} (hc:c<n) (hcP:c∉P):∀ k,k≤P.length→toV (lnullk n M P c k)=nuV (rowV M) (fun i=>P.getD i 0) k c
  | 0,_=>by rw [lnullk,toV_unit hc,nuV,comb,va_zero]
  | k + 1,hk=>by
    have hp:=h.lt k (by omega)
    rw [lnullk,toV_set (by rw [lnullk_length];exact hp),lnullk_toV h hc hcP k (by omega)]
    funext j
    show _=add (vun c j) (add (comb _ _ k j) (mul (neg (rowV M k c)) (vun (P.getD k 0) j)))
    rw [←add_assoc]
    by_cases hj:j=P.getD k 0
    · subst hj
      have h0:nuV (rowV M) (fun i=>P.getD i 0) k c (P.getD k 0)=vun c (P.getD k 0):=nu_free fun i hi=>by
        have:=h.inc i k hi (by omega);show P.getD i 0≠P.getD k 0;omega
      have h1:vun c (P.getD k 0)=(zero:α):=if_neg fun e=>hcP (mem_getD.2 ⟨k,by omega,e⟩)
      have h2:add (vun c (P.getD k 0)) (comb (fun i=>neg (rowV M i c)) (fun i=>vun (P.getD i 0)) k (P.getD k 0))=(zero:α):=by rw [←h1];exact h0
      rw [h2,if_pos rfl,vun,if_pos rfl,mul_one,Fl.zero_add]
      rfl
    · rw [if_neg hj,show vun (P.getD k 0) j=(zero:α) from if_neg hj,Fl.mul_zero,add_zero]
      rfl
theorem frees_mem {c:Nat}:c∈frees n P↔c<n∧c∉P:=by simp [frees]
theorem frees_nodup:(frees n P).Nodup:=List.Pairwise.filter _ List.nodup_range
theorem lnulls_span (h:RedTo n n M P) (u:Vc α):LSpan (lnulls n M P) u↔Nul n (LSpan M) u:=by
  obtain⟨_,hd⟩:=h.done
  have hlen:=h.len
  have hM:∀ u,Span P.length (rowV M) u↔LSpan M u:=fun u=>by
    rw [←hd u]
    have hl:(M.take P.length).length=P.length:=by rw [List.length_take];omega
    have e:∀ i,i<P.length→rowV (M.take P.length) i=rowV M i:=fun i hi=>by
      unfold rowV
      rw [show (M.take P.length).getD i []=M.getD i [] by simp only [List.getD_eq_getElem?_getD,List.getElem?_take_of_lt hi]]
    unfold LSpan
    rw [hl]
    exact⟨Span.mono fun i hi=>by rw [←e i hi];exact Span.row hi,Span.mono fun i hi=>by rw [e i hi];exact Span.row hi⟩
  rw [Nul.cong (fun w=>(hM w).symm)]
  have hfree:∀ c,c∈frees n P↔c<n∧∀ i,i<P.length→P.getD i 0≠c:=fun c=>by
    rw [frees_mem,mem_getD]
    exact⟨fun ⟨a,b⟩=>⟨a,fun i hi e=>b ⟨i,hi,e⟩⟩,fun ⟨a,b⟩=>⟨a,fun ⟨i,hi,e⟩=>b i hi e⟩⟩
  refine nu_span h.red h.lt (fun i j hi hj=>?_) frees_nodup hfree (by simp [lnulls]) (fun k hk=>?_) u
  · exact toV_row_out h.width (by omega) hj
  · have h1:(frees n P).getD k 0∈frees n P:=getD_mem hk
    obtain⟨h2,h3⟩:=frees_mem.1 h1
    rw [←lnullk_toV h h2 h3 _ (Nat.le_refl _)]
    unfold rowV lnulls
    congr 1
    simp [List.getD_eq_getElem?_getD,List.getElem?_eq_getElem hk]
theorem lnulls_kernel (h:RedTo n n M P) {rows:List (List α)} (hl:∀ x∈rows,x.length=n) (hs:∀ u,LSpan M u↔LSpan rows u):lreduce (lnulls n M P)=lkernel n rows:=by
  obtain⟨h1,h2,_⟩:=lreduce_red (lnulls_len n M P)
  obtain⟨h3,h4⟩:=lkernel_red hl
  refine h1.unique h3 fun u=>?_
  rw [h2,lnulls_span h,h4,Nul.cong hs]
theorem frees_length (h:RedTo n n M P):(frees n P).length+P.length=n:=by
  have hN:P.Nodup:=by
    rw [List.Nodup,List.pairwise_iff_getElem]
    intro i j hi hj hij
    have:=h.inc i j hij hj
    simp only [List.getD_eq_getElem?_getD,List.getElem?_eq_getElem hi,List.getElem?_eq_getElem hj,Option.getD_some] at this
    omega
  have h1:=filter_split (fun c=>decide (c∉P)) (List.range n)
  have h2:((List.range n).filter (fun c=>!decide (c∉P))).length=P.length:=by
    refine Nat.le_antisymm (nodup_sub_len _ _ (List.Pairwise.filter _ List.nodup_range) fun x hx=>?_) (nodup_sub_len _ _ hN fun x hx=>?_)
    · simpa using (List.mem_filter.1 hx).2
    · refine List.mem_filter.2 ⟨?_,by simpa using hx⟩
      obtain⟨i,hi,rfl⟩:=mem_getD.1 hx
      exact List.mem_range.2 (h.lt i hi)
  rw [List.length_range,h2] at h1
  exact h1.symm
theorem lnulls_rank (h:RedTo n n M P):(lreduce (lnulls n M P)).length=(frees n P).length:=by
  have hlen:(lnulls n M P).length=(frees n P).length:=by simp [lnulls]
  rw [lreduce_indep (lnulls_len n M P),hlen]
  intro k hk hs
  rw [hlen] at hk
  have row:∀ i,i<(frees n P).length→rowV (lnulls n M P) i ((frees n P).getD k 0)=vun ((frees n P).getD i 0) ((frees n P).getD k 0):=by
    intro i hi
    obtain⟨h2,h3⟩:=frees_mem.1 (getD_mem (l:=frees n P) (d:=0) hi)
    obtain⟨_,h5⟩:=frees_mem.1 (getD_mem (l:=frees n P) (d:=0) hk)
    have e:rowV (lnulls n M P) i=toV (lnullk n M P ((frees n P).getD i 0) P.length):=by
      unfold rowV lnulls
      congr 1
      simp [List.getD_eq_getElem?_getD,List.getElem?_eq_getElem hi]
    rw [e,lnullk_toV h h2 h3 _ (Nat.le_refl _)]
    exact nu_free fun l hl e=>h5 (mem_getD.2 ⟨l,hl,e⟩)
  have h1:toV ((lnulls n M P).getD k []) ((frees n P).getD k 0)=zero:=by
    refine hs.sub (S:=fun u=>u ((frees n P).getD k 0)=zero) rfl (fun u v hu hv=>?_) (fun c u hu=>?_) (fun x hx=>?_)
    · show add (u _) (v _)=zero;rw [hu,hv,add_zero]
    · show mul c (u _)=zero;rw [hu,Fl.mul_zero]
    · obtain⟨i,hi,rfl⟩:=List.mem_iff_getElem.1 hx
      rw [List.length_take] at hi
      rw [List.getElem_take,←rowV_at (show i<(lnulls n M P).length by omega),row i (by omega)]
      exact if_neg fun e=>nodup_getD (frees_nodup (n:=n) (P:=P)) hk (show i<_ by omega) (by omega) e
  have h2:=row k hk
  rw [vun,if_pos rfl] at h2
  exact one_ne (h2.symm.trans h1)
end
theorem redto_exists {n:Nat} {A:List (List α)} (hl:∀ x∈A,x.length=n):∀ w,w≤n→∃ M P,RedTo n w M P∧M.length=A.length∧∀ u,LSpan M u↔LSpan A u:=by
  intro w
  induction w with
  | zero=>intro _;exact⟨A,[],RedTo.start hl,rfl,fun _=>Iff.rfl⟩
  | succ w ih =>
    intro hw
    obtain⟨M,P,h,h2,h3⟩:=ih (by omega)
    by_cases hp:∃ i,P.length≤i∧i<M.length∧ent M i w≠zero
    · obtain⟨i,h4,h5,h6⟩:=hp
      exact⟨_,_,h.step h5 h4 h6,by rw [lelim_length,lfront_length,h2],fun u=>(step_span h.width (by omega) h5 h6 u).trans (h3 u)⟩
    · exact⟨M,P,h.skip fun k hk hk2=>Classical.byContradiction fun hne=>hp ⟨k,hk,hk2,hne⟩,h2,h3⟩
theorem rank_null {n:Nat} {A:List (List α)} (hl:∀ x∈A,x.length=n):(lkernel n A).length+(lreduce A).length=n:=by
  obtain⟨M,P,h,_,h3⟩:=redto_exists hl n (Nat.le_refl n)
  rw [←lnulls_kernel h hl h3,lnulls_rank h,←reduced_eq hl h h3,List.length_take,Nat.min_eq_left h.len]
  exact frees_length h
def vcut (w:Nat) (v:Vc α):Vc α:=fun j=>if j<w then v j else zero
theorem toV_take (x:List α) (w:Nat):toV (x.take w)=vcut w (toV x):=by
  funext j
  simp only [toV,vcut,List.getD_eq_getElem?_getD]
  split
  · rename_i h;rw [List.getElem?_take_of_lt h]
  · rename_i h;rw [List.getElem?_eq_none (by rw [List.length_take];omega)];rfl
theorem vcut_va (w:Nat) (u v:Vc α):vcut w (va u v)=va (vcut w u) (vcut w v):=by
  funext j
  simp only [vcut,va]
  split
  · rfl
  · exact (add_zero _).symm
theorem vcut_vs (w:Nat) (c:α) (v:Vc α):vcut w (vs c v)=vs c (vcut w v):=by
  funext j
  simp only [vcut,vs]
  split
  · rfl
  · exact (Fl.mul_zero _).symm
theorem lspan_cut {L:List (List α)} {w:Nat} {u:Vc α}:LSpan (L.map fun x=>x.take w) u↔∃ v,LSpan L v∧u=vcut w v:=by
  constructor
  · intro h
    refine h.sub (S:=fun u=>∃ v,LSpan L v∧u=vcut w v) ⟨vz,.zero,by funext j;simp [vcut,vz]⟩ (fun u v hu hv=>?_) (fun c u hu=>?_) (fun x hx=>?_)
    · obtain⟨a,h1,rfl⟩:=hu
      obtain⟨b,h2,rfl⟩:=hv
      exact⟨va a b,Span.add h1 h2,(vcut_va _ _ _).symm⟩
    · obtain⟨a,h1,rfl⟩:=hu
      exact⟨vs c a,Span.smul _ h1,(vcut_vs _ _ _).symm⟩
    · obtain⟨y,hy,rfl⟩:=List.mem_map.1 hx
      exact⟨_,LSpan.mem hy,toV_take _ _⟩
  · rintro⟨v,hv,rfl⟩
    refine hv.sub (S:=fun v=>LSpan (L.map fun x=>x.take w) (vcut w v)) ?_ (fun u v hu hv=>?_) (fun c u hu=>?_) (fun x hx=>?_)
    · rw [show vcut w vz=(vz:Vc α) by funext j;simp [vcut,vz]];exact .zero
    · rw [vcut_va];exact Span.add hu hv
    · rw [vcut_vs];exact Span.smul _ hu
    · rw [←toV_take];exact LSpan.mem (List.mem_map.2 ⟨x,hx,rfl⟩)
end
end Go.Sim

namespace Go.Sim
section
variable {α:Type} [Fl α] [DecidableEq α]
open Fl
def lheads (n:Nat) (L:List (List α)):List (List α):=(L.filter fun l=>!decide (n≤lpiv l)).map fun l=>l.take n
theorem lpiv_take {x:List α} {n:Nat} (h:lpiv x<n) (hx:lpiv x<x.length):lpiv (x.take n)=lpiv x:=by
  have at_:∀ j,j<n→(x.take n).getD j zero=x.getD j zero:=fun j hj=>by
    simp only [List.getD_eq_getElem?_getD,List.getElem?_take_of_lt hj]
  refine lpiv_eq (by rw [List.length_take];omega) (fun j hj=>?_) ?_
  · rw [at_ j (by omega)];exact lpiv_zero x j hj
  · rw [at_ _ h];exact lpiv_ne x hx
theorem lheads_red {n m:Nat} {L:List (List α)} (h:LRed (n+m) L):LRed n (lheads n L)∧∀ u,LSpan (lheads n L) u↔∃ v,LSpan L v∧u=vcut n v:=by
  have mem:∀ x∈L.filter (fun l=>!decide (n≤lpiv l)),x∈L∧lpiv x<n:=fun x hx=>by simpa using List.mem_filter.1 hx
  have at_:∀ (x:List α) j,j<n→(x.take n).getD j zero=x.getD j zero:=fun x j hj=>by
    simp only [List.getD_eq_getElem?_getD,List.getElem?_take_of_lt hj]
  refine⟨⟨fun y hy=>?_,?_⟩,fun u=>⟨fun hu=>?_,?_⟩⟩
  · obtain⟨x,hx,rfl⟩:=List.mem_map.1 hy
    obtain⟨hxL,hp⟩:=mem x hx
    obtain⟨h1,h2,h3⟩:=h.row x hxL
    rw [lpiv_take hp (by omega),at_ x _ hp]
    exact⟨by rw [List.length_take];omega,hp,h3⟩
  · unfold lheads
    rw [List.pairwise_map]
    refine (h.pw.filter _).imp_of_mem fun {a b} ha hb hab=>?_
    obtain⟨haL,hpa⟩:=mem a ha
    obtain⟨hbL,hpb⟩:=mem b hb
    have ra:=h.row a haL
    have rb:=h.row b hbL
    rw [lpiv_take hpa (by omega),lpiv_take hpb (by omega),at_ a _ hpb,at_ b _ hpa]
    exact hab
  · obtain⟨v,hv,e⟩:=lspan_cut.1 hu
    exact⟨v,hv.mono fun x hx=>LSpan.mem (mem x hx).1,e⟩
  · rintro⟨v,hv,rfl⟩
    refine hv.sub (S:=fun v=>LSpan (lheads n L) (vcut n v)) ?_ (fun u v hu hv=>?_) (fun c u hu=>?_) (fun x hx=>?_)
    · rw [show vcut n vz=(vz:Vc α) by funext j;simp [vcut,vz]];exact .zero
    · rw [vcut_va];exact Span.add hu hv
    · rw [vcut_vs];exact Span.smul _ hu
    · by_cases hp:n≤lpiv x
      · rw [show vcut n (toV x)=vz by
          funext j
          unfold vcut
          split
          · exact lpiv_zero x j (by omega)
          · rfl]
        exact .zero
      · rw [←toV_take]
        exact LSpan.mem (List.mem_map.2 ⟨x,List.mem_filter.2 ⟨hx,by simpa using hp⟩,rfl⟩)
theorem heads_tails {n:Nat} (L:List (List α)):L.length=(lheads n L).length+(ltail n L).length:=by
  have:=filter_split (fun l:List α=>decide (n≤lpiv l)) L
  simp only [lheads,ltail,List.length_map]
  omega
end
end Go.Sim

namespace Go.Sim
open Fl
section
variable {α:Type} [Fl α] [DecidableEq α]
theorem vsub_eq {u v:Vc α} (h:va u (vs (Fl.neg Fl.one) v)=vz):u=v:=funext fun j=>sub_eq (congrFun h j)
theorem LRed.indepT {n:Nat} {L:List (List α)} (h:LRed n L) {k:Nat} (hk:k<L.length):¬LSpan (L.take k) (toV (L.getD k [])):=by
  intro hs
  have hr:=h.red
  have h0:toV (L.getD k []) (lpiv (L.getD k []))=Fl.zero:=by
    refine LSpan.sub (L:=L.take k) (S:=fun u=>u (lpiv (L.getD k []))=Fl.zero) rfl ?_ ?_ ?_ hs
    · intro a b ha hb
      show Fl.add (a _) (b _)=_
      rw [ha,hb,Fl.add_zero]
    · intro c a ha
      show Fl.mul c (a _)=_
      rw [ha,Fl.mul_zero]
    · intro x hx
      obtain⟨i,hi,rfl⟩:=List.mem_iff_getElem.1 hx
      have hi':i<k:=by simp at hi;omega
      have:=hr.alone k i hk (by omega) (by omega)
      rw [rowV_at (by omega)] at this
      simpa using this
  have h1:=hr.one k hk
  exact one_ne_zero' (h1.symm.trans h0)
theorem span_at {L:List (List α)} {k:Nat} (hk:k<L.length):LSpan L (toV (L.getD k [])):=LSpan.mem (getD_mem hk)
theorem LM.inj_len {m n:Nat} {T:List α→List α} {t:Vc α→Vc α} (h:LM m n T t) {L:List (List α)} (hL:LRed m L) (hi:∀ u,LSpan L u→t u=vz→u=vz):(lreduce (L.map T)).length=L.length:=by
  have hl:=hL.len
  have hw:=h.width hl
  rw [lreduce_indep hw,List.length_map]
  intro k hk hs
  rw [List.length_map] at hk
  have e1:(L.map T).getD k []=T (L.getD k []):=by
    simp [List.getD_eq_getElem?_getD,List.getElem?_eq_getElem hk]
  have hlk:(L.getD k []).length=m:=hl _ (getD_mem hk)
  rw [e1,←List.map_take,h.eq _ hlk] at hs
  obtain⟨v,hv,e⟩:=(h.span (fun x hx=>hl x (List.mem_of_mem_take hx)) _).1 hs
  have hv2:LSpan L v:=LSpan.mono (fun x hx=>LSpan.mem (List.mem_of_mem_take hx)) hv
  have hz:=hi (va (toV (L.getD k [])) (vs (Fl.neg Fl.one) v)) (Span.add (span_at hk) (Span.smul _ hv2)) (by rw [h.add,h.smul,e,vneg])
  rw [vsub_eq hz] at hs
  exact hL.indepT hk (by rw [vsub_eq hz];exact hv)
theorem lev_dim {n:Nat} {f:Vc α→α} (hf:Lf f) {G:List (List α)} (hG:LRed n G) {w:Vc α} (hw:LSpan G w) (hw0:f w≠Fl.zero):(lev f G).length+1=G.length:=by
  have hl:=hG.len
  have hex:∃ p∈G,f (toV p)≠Fl.zero:=by
    refine Classical.byContradiction fun hn=>hw0 ?_
    refine LSpan.sub (L:=G) (S:=fun u=>f u=Fl.zero) hf.zero ?_ ?_ ?_ hw
    · intro a b ha hb;rw [hf.add,ha,hb,Fl.add_zero]
    · intro c a ha;rw [hf.smul,ha,Fl.mul_zero]
    · intro x hx;exact Classical.byContradiction fun h=>hn ⟨x,hx,h⟩
  obtain⟨p,hp,hp0⟩:=hex
  have hE:=lev_red (f:=f) hl
  have hEl:=hE.len
  have hpl:=hl p hp
  have hlen:∀ x∈lev f G++[p],x.length=n:=by
    intro x hx
    rcases List.mem_append.1 hx with hx|hx
    · exact hEl x hx
    · rw [List.mem_singleton.1 hx];exact hpl
  have hspan:∀ u,LSpan (lev f G++[p]) u↔LSpan G u:=by
    intro u
    constructor
    · refine LSpan.mono fun x hx=>?_
      rcases List.mem_append.1 hx with hx|hx
      · exact ((lev_span hf hl _).1 (LSpan.mem hx)).1
      · rw [List.mem_singleton.1 hx];exact LSpan.mem hp
    · intro hu
      obtain⟨c,hc⟩:∃ c,c=Fl.mul (f u) (Fl.inv (f (toV p))):=⟨_,rfl⟩
      have h1:LSpan (lev f G) (va u (vs (Fl.neg c) (toV p))):=by
        refine (lev_span hf hl _).2 ⟨Span.add hu (Span.smul _ (LSpan.mem hp)),?_⟩
        rw [hf.add,hf.smul,hc,neg_mul',Fl.mul_assoc,Fl.mul_comm (Fl.inv _),Fl.mul_inv _ hp0,Fl.mul_one,Fl.add_neg]
      have h2:u=va (va u (vs (Fl.neg c) (toV p))) (vs c (toV p)):=by
        rw [va_assoc,←add_vs,Fl.add_comm (Fl.neg c),Fl.add_neg,vs_zero,va_zero]
      rw [h2]
      refine Span.add (LSpan.mono (fun x hx=>LSpan.mem (List.mem_append_left _ hx)) h1) (Span.smul _ (LSpan.mem (by simp)))
  have e1:lreduce (lev f G++[p])=G:=(lred_eq hlen hl hspan).trans (lred_self hG)
  have e2:lreduce (lev f G)=lev f G:=lred_self hE
  have hc:=has_count hEl hpl
  have hnot:lhas (lev f G) p=false:=by
    rw [Bool.eq_false_iff]
    intro h
    exact hp0 ((lev_span hf hl _).1 ((lhas_iff hEl hpl).1 h)).2
  rw [hnot,decide_eq_false_iff_not,e1,e2] at hc
  have hs:G.length=(lput (lreduce (lev f G)) p).length:=by rw [←lreduce_snoc,e1]
  rw [lput_length,e2] at hs
  split at hs
  · exact absurd hs hc
  · exact hs.symm
theorem vskip_inj {i:Nat} {v:Vc α} (h:vskip i v=vz):∀ j,j≠i→v j=Fl.zero:=by
  intro j hj
  by_cases h1:j<i
  · have:=congrFun h j
    unfold vskip skipP at this
    rwa [if_pos h1] at this
  · have:=congrFun h (j-1)
    unfold vskip skipP at this
    rw [if_neg (by omega),Nat.sub_add_cancel (by omega)] at this
    exact this
section
variable {n i:Nat} {G:List (List α)}
theorem punct_dim1 (hG:LRed n G) (hi:i<n) {w:Vc α} (hw:LSpan G w) (h0:∀ j,j≠i→w j=Fl.zero) (h1:w i≠Fl.zero):(lreduce (G.map (pick (n-1) (skipP i)))).length+1=G.length:=by
  have hf:=Lf.at_ (α:=α) i
  have hl:=hG.len
  have hE:=lev_red (f:=fun v:Vc α=>v i) hl
  have hM:=LM.pick (α:=α) n (n-1) (skipP i)
  have e:lreduce (G.map (pick (n-1) (skipP i)))=lreduce ((lev (fun v=>v i) G).map (pick (n-1) (skipP i))):=by
    refine lred_eq (hM.width hl) (hM.width hE.len) fun u=>?_
    rw [hM.span hl,hM.span hE.len]
    constructor
    · rintro⟨v,hv,rfl⟩
      obtain⟨c,hc⟩:∃ c,c=Fl.mul (v i) (Fl.inv (w i)):=⟨_,rfl⟩
      refine⟨va v (vs (Fl.neg c) w),(lev_span hf hl _).2 ⟨Span.add hv (Span.smul _ hw),?_⟩,?_⟩
      · show Fl.add (v i) (Fl.mul (Fl.neg c) (w i))=_
        rw [hc,neg_mul',Fl.mul_assoc,Fl.mul_comm (Fl.inv _),Fl.mul_inv _ h1,Fl.mul_one,Fl.add_neg]
      · funext j
        unfold vpick va vs
        split
        · rw [h0 (skipP i j) (by unfold skipP;split<;>omega),Fl.mul_zero,Fl.add_zero]
        · rfl
    · rintro⟨v,hv,rfl⟩
      exact⟨v,((lev_span hf hl _).1 hv).1,rfl⟩
  rw [e,←lev_dim hf hG hw h1]
  congr 1
  refine hM.inj_len hE fun u hu hz=>?_
  rw [vpick_skip ((Cd.self hE).out hu) hi] at hz
  have h3:=vskip_inj hz
  have h2:=((lev_span hf hl u).1 hu).2
  funext j
  by_cases hj:j=i
  · rw [hj];exact h2
  · exact h3 j hj
end
theorem ext_dim {n:Nat} {G:List (List α)} (hG:LRed n G):(lreduce (G.map (lext n))).length=G.length:=by
  refine (LM.ext n).inj_len hG fun u hu h0=>?_
  have hout:=(Cd.self hG).out hu
  funext j
  by_cases hj:j<n
  · have:=congrFun h0 j
    unfold vext at this
    rwa [if_pos hj] at this
  · exact hout j (by omega)
end
end Go.Sim

namespace Go.Sim
open Fl
section
variable {α:Type} [Fl α] [DecidableEq α]
section
variable {n i:Nat} {w v:Vc α}
end
section
variable {n i:Nat} {G:List (List α)}
end
def addL (f:Nat→α) (l:List Nat):α:=l.foldr (fun j a=>Fl.add (f j) a) Fl.zero
def ldbl (n:Nat) (A B:List (List α)):List (List α):=A.map (pick (n+n) fun j=>if j<n then j else j-n)++B.map (pick (n+n) fun j=>if j<n then n else j-n)
def DblS (n:Nat) (S T:Vc α→Prop) (u:Vc α):Prop:=∃ v w,S v∧T w∧u=va v (vsh n (va v w))
theorem vsh_va (n:Nat) (u v:Vc α):vsh n (va u v)=va (vsh n u) (vsh n v):=by
  funext j
  show (if j<n then Fl.zero else Fl.add (u (j-n)) (v (j-n)))=Fl.add (if j<n then Fl.zero else u (j-n)) (if j<n then Fl.zero else v (j-n))
  split
  · exact (Fl.add_zero (Fl.zero:α)).symm
  · rfl
theorem ldbl_len {n:Nat} (A B:List (List α)):∀ x∈ldbl n A B,x.length=n+n:=by
  intro x hx
  rcases List.mem_append.1 hx with h|h
  · obtain⟨y,_,rfl⟩:=List.mem_map.1 h;exact pick_len _ _ _
  · obtain⟨y,_,rfl⟩:=List.mem_map.1 h;exact pick_len _ _ _
theorem Cd.dbl {n:Nat} {A B:List (List α)} {S T:Vc α→Prop} (hA:Cd n A S) (hB:Cd n B T):Cd (n+n) (lreduce (ldbl n A B)) (DblS n S T):=by
  obtain⟨a1,a2,_⟩:=lreduce_red (ldbl_len (n:=n) A B)
  refine⟨a1,fun u=>(a2 u).trans ((lspan_app u).trans ?_)⟩
  have e1:∀ v,S v→vpick (n+n) (fun j=>if j<n then j else j-n) v=va v (vsh n v):=by
    intro v hv
    funext j
    unfold vpick va vsh
    by_cases h:j<n
    · rw [if_pos (by omega)]
      simp only [if_pos h,Fl.add_zero]
    · by_cases h2:j<n+n
      · rw [if_pos h2]
        simp only [if_neg h]
        rw [hA.out hv j (by omega),Fl.zero_add]
      · rw [if_neg h2]
        simp only [if_neg h]
        rw [hA.out hv j (by omega),hA.out hv (j-n) (by omega),Fl.add_zero]
  have e2:∀ w,T w→vpick (n+n) (fun j=>if j<n then n else j-n) w=vsh n w:=by
    intro w hw
    funext j
    unfold vpick vsh
    by_cases h:j<n+n
    · rw [if_pos h]
      by_cases h2:j<n
      · show w (if j<n then n else j-n)=if j<n then _ else _
        rw [if_pos h2,if_pos h2,hB.out hw n (Nat.le_refl _)]
      · show w (if j<n then n else j-n)=if j<n then _ else _
        rw [if_neg h2,if_neg h2]
    · rw [if_neg h,if_neg (by omega),hB.out hw _ (by omega)]
  constructor
  · rintro⟨v,w,h1,h2,rfl⟩
    obtain⟨v',hv',rfl⟩:=((LM.pick n (n+n) fun j=>if j<n then j else j-n).span hA.red.len v).1 h1
    obtain⟨w',hw',rfl⟩:=((LM.pick n (n+n) fun j=>if j<n then n else j-n).span hB.red.len w).1 h2
    have hS:=(hA.span v').1 hv'
    have hT:=(hB.span w').1 hw'
    exact⟨v',w',hS,hT,by rw [e1 v' hS,e2 w' hT,vsh_va,va_assoc]⟩
  · rintro⟨v,w,hS,hT,rfl⟩
    refine⟨va v (vsh n v),vsh n w,?_,?_,by rw [vsh_va,va_assoc]⟩
    · exact ((LM.pick n (n+n) fun j=>if j<n then j else j-n).span hA.red.len _).2 ⟨v,(hA.span v).2 hS,(e1 v hS).symm⟩
    · exact ((LM.pick n (n+n) fun j=>if j<n then n else j-n).span hB.red.len _).2 ⟨w,(hB.span w).2 hT,(e2 w hT).symm⟩
theorem sum_dim {n m:Nat} {A B:List (List α)} (hA:LRed n A) (hB:LRed m B):(lreduce (lsum n m A B)).length=A.length+B.length:=by
  have cA:=Cd.self hA
  have cB:=Cd.self hB
  have cS:=Cd.sum cA cB
  have hf : (lheads n (lreduce (lsum n m A B))).length=A.length∧(ltail n (lreduce (lsum n m A B))).length=B.length:=by
    obtain⟨h1,h2⟩:=lheads_red cS.red
    obtain⟨t1,t2⟩:=ltail_red cS.red
    constructor
    · rw [h1.unique hA fun u=>?_]
      rw [h2]
      constructor
      · rintro⟨v,hv,rfl⟩
        exact (sum_tk cA cB _).1 ⟨v,(cS.span v).1 hv,rfl⟩
      · intro hu
        obtain⟨v,hv,rfl⟩:=(sum_tk cA cB u).2 hu
        exact⟨v,(cS.span v).2 hv,rfl⟩
    · rw [t1.unique hB fun u=>?_]
      rw [t2,cS.span]
      constructor
      · rintro⟨v,w,hv,hw,e⟩
        have e1:v=vz:=by
          have:=congrArg (vtk n) e
          rw [vtk_sum (cA.out hv)] at this
          rw [←this]
          funext j
          unfold vtk vshift
          split
          · rfl
          · rfl
        have e2:=congrArg (vdr n) e
        rw [vdr_sum (cA.out hv)] at e2
        have e3:vdr n (vshift n u)=u:=vdrop_shift n u
        rw [e3] at e2
        rw [e2];exact hw
      · intro hu
        exact⟨vz,u,Span.zero,hu,(zero_va _).symm⟩
  rw [heads_tails (n:=n),hf.1,hf.2]
theorem dbl_dim {n:Nat} {A B:List (List α)} (hA:LRed n A) (hB:LRed n B):(lreduce (ldbl n A B)).length=A.length+B.length:=by
  have cA:=Cd.self hA
  have cB:=Cd.self hB
  have cS:=Cd.dbl cA cB
  obtain⟨h1,h2⟩:=lheads_red cS.red
  obtain⟨t1,t2⟩:=ltail_red cS.red
  have tk:∀ v w:Vc α,(∀ j,n≤j→v j=Fl.zero)→vtk n (va v (vsh n w))=v:=fun v w h=>vtk_sum h
  rw [heads_tails (n:=n)]
  congr 1
  · rw [h1.unique hA fun u=>?_]
    rw [h2]
    constructor
    · rintro⟨x,hx,rfl⟩
      obtain⟨v,w,hv,hw,rfl⟩:=(cS.span x).1 hx
      have:vcut n (va v (vsh n (va v w)))=v:=tk v _ (cA.out hv)
      rw [this];exact hv
    · intro hu
      exact⟨va u (vsh n (va u vz)),(cS.span _).2 ⟨u,vz,hu,Span.zero,rfl⟩,(tk u _ (cA.out hu)).symm⟩
  · rw [t1.unique hB fun u=>?_]
    rw [t2,cS.span]
    constructor
    · rintro⟨v,w,hv,hw,e⟩
      have e1:v=vz:=by
        have:=congrArg (vtk n) e
        rw [tk v _ (cA.out hv)] at this
        rw [←this]
        funext j
        unfold vtk vshift
        split
        · rfl
        · rfl
      have e2:=congrArg (vdr n) e
      rw [vdr_sum (cA.out hv),e1,zero_va] at e2
      have e3:vdr n (vshift n u)=u:=vdrop_shift n u
      rw [e3] at e2
      rw [e2];exact hw
    · intro hu
      refine⟨vz,u,Span.zero,hu,?_⟩
      rw [zero_va,zero_va];rfl
end
end Go.Sim

namespace Go.Sim
open Go Go.Proofs
section
variable {α:Type} [Fl α] [DecidableEq α] {cd:α→Nat} {p e b c q:Nat} {blk:AB} {H:AH}
theorem LRed.le {n:Nat} {A:List (List α)} (h:LRed n A):A.length≤n:=by
  have:=rank_null h.len
  rw [lred_self h] at this
  omega
end
end Go.Sim

namespace Go.Sim
open Go Go.Proofs
section
variable {α:Type} [Fl α] [DecidableEq α] {cd:α→Nat} {p e b c q:Nat} {blk:AB} {H:AH}
theorem zeros_ev (F:FOK α cd p e b c q blk) (n:Nat):(List.replicate n 0).map nv=evs cd (List.replicate n (Fl.zero:α)):=by simp [evs,F.zero]
theorem codv_fill {q n:Nat} {w:Value} (h:isSl w=true):xfill [nv 0,nv 0,.slice none 0 0] [(0,1),(1,1),(2,1)] [nv q,nv n,w]=some [nv q,nv n,w]:=by
  cases w<;>simp [isSl] at h
  rfl
end
end Go.Sim

namespace Go.Sim
open Go Go.Proofs
section
variable {α:Type} [Fl α] [DecidableEq α] {cd:α→Nat} {p e b c q:Nat} {blk:AB} {H:AH}
theorem pick_dbl {n:Nat} {xs:List α} (hl:xs.length=n):pick (n+n) (fun j=>if j<n then j else j-n) xs=xs++xs:=by
  refine List.ext_getElem (by simp [pick_len,hl]) fun j h1 h2=>?_
  rw [pick_len] at h1
  by_cases hj:j<n
  · rw [List.getElem_append_left (by omega)]
    simp [pick,hj,List.getD_eq_getElem?_getD,List.getElem?_eq_getElem (show j<xs.length by omega)]
  · rw [List.getElem_append_right (by omega)]
    simp [pick,hj,List.getD_eq_getElem?_getD,hl,List.getElem?_eq_getElem (show j-n<xs.length by omega)]
theorem dbl1_c {v:Value} {n:Nat} {xs:List α} (hv:Row H v (evs cd xs)) (hl:xs.length=n) (hn:n≤1000) (hn0:0<n) :
    FN Tryz.prog 125 [v] H (fun r H'=>Pre H H'∧Row H' r (evs cd (pick (n+n) (fun j=>if j<n then j else j-n) xs))):=by
  refine g125_of ?_
  unfold g125
  simp (disch:=(first|omega|(simp only [stLen]<;>omega)|(simp only [all_nv];done)|rfl)) only [zA,zB,zC,zD,zF,zG,zH,Nat.reduceEqDiff,Nat.reduceLT,Nat.reduceLeDiff,↓reduceIte,hv.fill]
  have hp:=Pre.new H [.cells [v,v] 31 none false]
  have hcl:(evs cd xs).length=n:=by rw [List.length_map,hl]
  refine FZ.mono (cat2_c (xs:=evs cd xs) (ys:=evs cd xs) (bl:=H.length) (e:=31) (op:=none) (by simp) (rowx_e (hv.pre hp) hl hn0) (rowx_e (hv.pre hp) hl hn0) (evs_one _) (evs_one _) (by omega)) ?_
  rintro r H3 ⟨hp3,hr⟩
  have h3:=hr.row
  rw [←List.map_append,←pick_dbl hl] at h3
  exact⟨hp.trans hp3,h3⟩
theorem dbl2_c (F:FOK α cd p e b c q blk) {v x0 x2:Value} {bb n m:Nat} {et:TypeId} {op:Option Nat} {ro:Bool} {xs:List α} (hbb:H[bb]? = some (.cells [x0,nv n,x2] et op ro)) (hv:Row H v (evs cd xs)) (hl:xs.length=m) (hn:n≤1000) (hm:m≤1000) (hm0:0<m) :
    FN Tryz.prog 126 [v,.pointer (some ⟨bb,0,none⟩)] H (fun r H'=>Pre H H'∧Row H' r (evs cd (pick (n+m) (fun j=>if j<n then m else j-n) xs))):=by
  refine g126_of ?_
  unfold g126
  have hmk:8*n≤281474976710656:=by omega
  simp (disch:=(first|omega|(simp only [stLen]<;>omega)|(simp only [all_nv];done)|rfl)) only [zA,zB,zC,zD,zF,zG,zH,Nat.reduceEqDiff,Nat.reduceLT,Nat.reduceLeDiff,↓reduceIte,hbb,hmk,xnew_makeN,hv.fill]
  have hp:=Pre.new H [.cells ((List.replicate n 0).map nv) 3 none false,.cells [.slice (some ⟨H.length,0,none⟩) n n,v] 31 none false]
  have hz0:(H++[.cells ((List.replicate n 0).map nv) 3 none false,.cells [.slice (some ⟨H.length,0,none⟩) n n,v] 31 none false])[H.length]? = some (.cells ((List.replicate n 0).map nv) 3 none false):=by simp
  have hz1:(H++[.cells ((List.replicate n 0).map nv) 3 none false,.cells [.slice (some ⟨H.length,0,none⟩) n n,v] 31 none false])[H.length+1]? = some (.cells [.slice (some ⟨H.length,0,none⟩) n n,v] 31 none false):=by simp
  have hcl:(evs cd xs).length=m:=by rw [List.length_map,hl]
  refine FZ.mono (cat2_c (xs:=(List.replicate n 0).map nv) (ys:=evs cd xs) hz1 (rowX_zeros hz0) (rowx_e (hv.pre hp) hl hm0) (by simp [one]) (evs_one _) (by simp;omega)) ?_
  rintro r H3 ⟨hp3,hr⟩
  have h3:=hr.row
  rw [evs_zeros F,←List.map_append,←pick_right hl] at h3
  exact⟨hp.trans hp3,h3⟩
theorem mdouble_c (Q:FQ α cd p e q blk) {v w:Value} {n:Nat} {A B:List (List α)} (hv:RowR H v (evr cd A)) (hw:RowR H w (evr cd B)) (hA:∀ x∈A,x.length=n) (hB:∀ x∈B,x.length=n) (hlA:A.length≤200) (hlB:B.length≤200) (hn0:0<n) (hnm:n+n≤24) :
    FN Tryz.prog 72 [codv q n v,codv q n w] H (RetC cd q (n+n) (lreduce (ldbl n A B)) H):=by
  refine g72_of ?_
  unfold g72
  have ho:=hv.one'
  have ho2:=hw.one'
  have hnm':¬24<2*n:=by omega
  simp (disch:=omega) only [zA,zB,zC,zD,zF,zG,zH,↓reduceIte,hnm',xp_fn1]
  have hX:=Pre.new H [.cells [nv q,nv n,v] 29 none false,.cells [nv q,nv n,w] 29 none false,.cells [nv 0,nv 0,.slice none 0 0] 29 none false]
  have g0:(H++[.cells [nv q,nv n,v] 29 none false,.cells [nv q,nv n,w] 29 none false,.cells [nv 0,nv 0,.slice none 0 0] 29 none false])[H.length]? = some (.cells [nv q,nv n,v] 29 none false):=by simp
  have g1:(H++[.cells [nv q,nv n,v] 29 none false,.cells [nv q,nv n,w] 29 none false,.cells [nv 0,nv 0,.slice none 0 0] 29 none false])[H.length+1]? = some (.cells [nv q,nv n,w] 29 none false):=by simp
  have g2:(H++[.cells [nv q,nv n,v] 29 none false,.cells [nv q,nv n,w] 29 none false,.cells [nv 0,nv 0,.slice none 0 0] 29 none false])[H.length+2]? = some (.cells [nv 0,nv 0,.slice none 0 0] 29 none false):=by simp
  refine FZ.mono (each_e (T:=pick (n+n) fun j=>if j<n then j else j-n) (hv.pre hX) (by omega) (fun x hx w H1 hp hw=>?_)) ?_
  · exact dbl1_c hw (hA x hx) (by omega) hn0
  rintro r8 H8 ⟨hp8,hr8⟩
  have c0:=hp8.get g0
  have c1:=hp8.get g1
  simp (disch:=omega) only [zA,zB,zC,zD,zF,zG,zH,↓reduceIte,c1,xp_fn1]
  refine FZ.mono (each_e (T:=pick (n+n) fun j=>if j<n then n else j-n) (hw.pre (hX.trans hp8)) (by omega) (fun x hx w H1 hp hw=>?_)) ?_
  · exact dbl2_c (Q.ok 0) (hp.get c0) hw (hB x hx) (by omega) (by omega) hn0
  rintro r9 H9 ⟨hp9,hr9⟩
  have d0:=hp9.get c0
  have d1:=hp9.get c1
  have hr8':=hr8.pre hp9
  have f8:=hr8'.fill
  have f9:=hr9.fill
  simp (disch:=(first|omega|(simp only [stLen]<;>omega)|(simp only [all_nv];done)|rfl)) only [zA,zB,zC,zD,zF,zG,zH,Nat.reduceEqDiff,Nat.reduceLT,Nat.reduceLeDiff,↓reduceIte,d0,d1,f8,f9]
  have hp10:=Pre.new H9 [.cells [r8,r9] 27 none false]
  refine FZ.mono (all2_c (et:=27) (op:=none) (bl:=H9.length) (v:=r8) (w:=r9) (by simp) (hr8'.pre hp10) (hr9.pre hp10) (by simp;omega) (by simp;omega)) ?_
  rintro r11 H11 ⟨hp11,hr11⟩
  have hp911:=hp10.trans hp11
  have e0:=hp911.get d0
  have e1:=hp911.get d1
  simp (disch:=omega) only [zA,zB,zC,zD,zF,zG,zH,↓reduceIte,e0,e1]
  rw [Nat.two_mul]
  refine FZ.mono (mmade_c Q hr11 (ldbl_len (n:=n) A B) (by simp;omega) (by omega) (by omega)) ?_
  rintro _ H12 ⟨hp12,w12,rfl,hw12⟩
  have hpall:=hp8.trans (hp9.trans (hp911.trans hp12))
  have hc:=hpall.get g2
  have s9:=stB_three (H:=H12) (bl:=H.length+2) (x:=nv q) (y:=nv (n+n)) (z:=w12) (c0:=nv 0) (c1:=nv 0) (c2:=.slice none 0 0) (e:=29) (op:=none) rfl rfl hw12.one
  have g9:(H12.set (H.length+2) (.cells [nv q,nv (n+n),w12] 29 none false))[H.length+2]? = some (.cells [nv q,nv (n+n),w12] 29 none false):=List.getElem?_set_self (get_lt hc)
  simp (disch:=omega) only [zA,zB,zC,zD,zF,zG,zH,↓reduceIte,hc,s9,g9]
  have hl11:=(hp8.trans (hp9.trans hp911)).len
  simp only [List.length_append,List.length_cons,List.length_nil] at hl11
  exact⟨(hX.trans hpall).set (by omega) _,w12,rfl,(hw12.setLow (by omega)).mono (by omega)⟩
theorem doubled_c (Q:FQ α cd p e q blk) {v w:Value} {n:Nat} {A B:List (List α)} (hv:RowR H v (evr cd A)) (hw:RowR H w (evr cd B)) (hA:∀ x∈A,x.length=n) (hB:∀ x∈B,x.length=n) (hlA:A.length≤200) (hlB:B.length≤200) (hn0:0<n) (hnm:n+n≤24) :
    FN Tryz.prog 24 [codv q n v,codv q n w] H (RetG cd q (n+n) (lreduce (ldbl n A B)) H):=by
  refine g24_of ?_
  unfold g24
  have ho:=hv.one'
  have ho2:=hw.one'
  simp (disch:=omega) only [zA,zB,zC,zD,zF,zG,zH,↓reduceIte,ho2]
  have hX:=Pre.new H [.cells [nv q,nv n,v] 29 none false,.cells [nv q,nv n,w] 29 none false,.cells [nv 0,nv 0,.slice none 0 0,nv 0] 37 none false]
  refine FZ.mono (mdouble_c Q (hv.pre hX) (hw.pre hX) hA hB hlA hlB hn0 hnm) ?_
  rintro _ H3 ⟨hp3,w9,rfl,hw9⟩
  have s4:=stB_three (H:=H3++[.cells [nv 0,nv 0,.slice none 0 0] 29 none false]) (bl:=H3.length) (x:=nv q) (y:=nv (n+n)) (z:=w9) (c0:=nv 0) (c1:=nv 0) (c2:=.slice none 0 0) (e:=29) (op:=none) rfl rfl hw9.one
  rw [set_last] at s4
  have hb3:H3[H.length+2]? = some (.cells [nv 0,nv 0,.slice none 0 0,nv 0] 37 none false):=hp3.get (by simp)
  have hb4:=get_app hb3 [.cells [nv q,nv (n+n),w9] 29 none false]
  have s6:=stB_four (H:=H3++[.cells [nv q,nv (n+n),w9] 29 none false]) (bl:=H.length+2) (x:=nv q) (y:=nv (n+n)) (z:=w9) (u:=nv 0) (c0:=nv 0) (c1:=nv 0) (c2:=.slice none 0 0) (c3:=nv 0) (e:=37) (op:=none) rfl rfl hw9.one rfl
  have g6:((H3++[AB.cells [nv q,nv (n+n),w9] 29 none false]).set (H.length+2) (AB.cells [nv q,nv (n+n),w9,nv 0] 37 none false))[H.length+2]? = some (.cells [nv q,nv (n+n),w9,nv 0] 37 none false):=List.getElem?_set_self (get_lt hb4)
  have f4:=fill_got (q:=q) (n:=n+n) (er:=0) hw9.isSl
  simp (disch:=omega) only [zA,zB,zC,zD,zF,zG,zH,↓reduceIte,s4,hb4,f4,s6,g6]
  refine⟨((hX.trans hp3).app _).set (by omega) _,w9,rfl,?_⟩
  exact ((hw9.pre (Pre.new H3 _)).setLow (by simp)).mono (by simp)
end
end Go.Sim

namespace Go.Sim
open Go Go.Proofs
section
variable {α:Type} [Fl α] [DecidableEq α] {cd:α→Nat} {p e b c q:Nat} {blk:AB} {H:AH}
theorem lplus_more {xs ys:List α} {a:α}:lplus xs (ys.map (Fl.mul a))=lmore xs a ys:=by
  unfold lplus lmore
  rw [List.zipWith_map_right]
theorem over2_c (Q:FQ α cd p e q blk):FN Tryz.prog 62 [nv q] H (fun r H'=>Pre H H'∧∃ b,r=fldv p e b e e∧H'[b]? = some blk∧H.length≤b):=by
  refine g62_of ?_
  unfold g62
  simp (disch:=omega) only [zA,zB,zC,zD,zF,zG,zH,↓reduceIte]
  refine FZ.use (Q.rmake _) ?_
  have s3:=stB_three (H:=H++[.cells [nv 0,nv 0,.slice none 0 0] 76 none false,blk,.cells [nv 0,nv 0,.slice none 0 0] 76 none false]) (bl:=H.length+2) (x:=nv p) (y:=nv e) (z:=.slice (some ⟨H.length+1,0,none⟩) e e) (c0:=nv 0) (c1:=nv 0) (c2:=.slice none 0 0) (e:=76) (op:=none) rfl rfl rfl
  have e3:(H++[.cells [nv 0,nv 0,.slice none 0 0] 76 none false,blk,.cells [nv 0,nv 0,.slice none 0 0] 76 none false]).set (H.length+2) (.cells [nv p,nv e,.slice (some ⟨H.length+1,0,none⟩) e e] 76 none false)=H++[.cells [nv 0,nv 0,.slice none 0 0] 76 none false,blk,fbx p e (H.length+1) e]:=by
    rw [List.set_append_right _ _ (by omega)];simp
  rw [e3] at s3
  have s4:=stB_three (H:=H++[.cells [nv 0,nv 0,.slice none 0 0] 76 none false,blk,fbx p e (H.length+1) e]) (bl:=H.length) (x:=nv p) (y:=nv e) (z:=.slice (some ⟨H.length+1,0,none⟩) e e) (c0:=nv 0) (c1:=nv 0) (c2:=.slice none 0 0) (e:=76) (op:=none) rfl rfl rfl
  have e4:(H++[.cells [nv 0,nv 0,.slice none 0 0] 76 none false,blk,fbx p e (H.length+1) e]).set H.length (.cells [nv p,nv e,.slice (some ⟨H.length+1,0,none⟩) e e] 76 none false)=H++[fbx p e (H.length+1) e,blk,fbx p e (H.length+1) e]:=by
    rw [List.set_append_right _ _ (by omega)];simp
  rw [e4] at s4
  simp (disch:=omega) only [zA,zB,zC,zD,zF,zG,zH,↓reduceIte,s3,s4]
  exact⟨Pre.new _ _,H.length+1,rfl,by simp,by omega⟩
theorem rof_c (Q:FQ α cd p e q blk) {v mv:Value} {n:Nat} {A:List (List α)} {ms:List α} (hv:RowR H v (evr cd A)) (hm:Row H mv (evs cd ms)) (hA:∀ x∈A,x.length=n) (hlm:ms.length=A.length) (hlA:A.length≤1000) (hn:n≤1000) :
    FN Tryz.prog 143 [codv q n v,mv] H (fun r H'=>Pre H H'∧Row H' r (evs cd (lcomb n A ms))):=by
  refine g143_of ?_
  unfold g143
  have ho:=hv.one'
  simp (disch:=omega) only [zA,zB,zC,zD,zF,zG,zH,↓reduceIte,ho]
  have hX:=Pre.new H [.cells [nv q,nv n,v] 29 none false,.cells [nv 0,nv 0,.slice none 0 0] 76 none false]
  refine FZ.mono (over2_c Q) ?_
  rintro _ H3 ⟨hp3,b,rfl,hb3,hlb0⟩
  have c3:H3[H.length]? = some (.cells [nv q,nv n,v] 29 none false):=hp3.get (by simp)
  have o3:H3[H.length+1]? = some (.cells [nv 0,nv 0,.slice none 0 0] 76 none false):=hp3.get (by simp)
  simp (disch:=omega) only [zA,zB,zC,zD,zF,zG,zH,↓reduceIte,c3]
  refine FZ.use (zero_c hn) ?_
  have hz:(H3++[.cells ((List.replicate n 0).map nv) 3 none false])[H3.length]? = some (.cells ((List.replicate n 0).map nv) 3 none false):=by simp
  have hpz:=Pre.new H3 [.cells ((List.replicate n 0).map nv) 3 none false]
  have o4:=hpz.get o3
  have c4:=hpz.get c3
  have b4:=hpz.get hb3
  have hX4:=hX.trans (hp3.trans hpz)
  have hl4:=(hp3.trans hpz).len
  obtain⟨H4,hH4⟩:∃ H4,H4=H3++[.cells ((List.replicate n 0).map nv) 3 none false]:=⟨_,rfl⟩
  rw [←hH4] at hz o4 c4 b4 hX4 hl4 ⊢
  have s5:=stB_three (H:=H4) (bl:=H.length+1) (x:=nv p) (y:=nv e) (z:=.slice (some ⟨b,0,none⟩) e e) (c0:=nv 0) (c1:=nv 0) (c2:=.slice none 0 0) (e:=76) (op:=none) rfl rfl rfl
  obtain⟨H5,hH5⟩:∃ H5,H5=H4.set (H.length+1) (.cells [nv p,nv e,.slice (some ⟨b,0,none⟩) e e] 76 none false):=⟨_,rfl⟩
  rw [←hH5] at s5
  have k5:∀ x,x≠H.length+1→H5[x]? = H4[x]?:=fun x hx=>by rw [hH5];exact List.getElem?_set_ne (Ne.symm hx)
  have o5:H5[H.length+1]? = some (fbx p e b e):=by rw [hH5];exact List.getElem?_set_self (get_lt o4)
  have c5:=(k5 H.length (by omega)).trans c4
  have hX5:Pre H H5:=fun x hx=>(k5 x (by omega)).trans (hX4 x hx)
  have hlb:=hp3.len
  simp only [List.length_append,List.length_cons,List.length_nil] at hlb
  have z5:=(k5 H3.length (by omega)).trans hz
  have hbne:b≠H.length+1:=by simp at hlb0;omega
  have b5:=(k5 b hbne).trans b4
  simp (disch:=omega) only [zA,zB,zC,zD,zF,zG,zH,↓reduceIte,o4,s5]
  have hrow0:Row H5 (.slice (some ⟨H3.length,0,none⟩) n n) (evs cd (lcombk n A ms 0)):=by
    have:evs cd (lcombk n A ms 0)=(List.replicate n 0).map nv:=(zeros_ev (Q.ok 0) n).symm
    rw [this]
    exact Row.of z5 (by simp) (Nat.le_refl _)
  refine loopV2.nat A.length (fun k w i H'=>i=nv k∧Pre H5 H'∧Row H' w (evs cd (lcombk n A ms k))) ⟨rfl,Pre.refl _,hrow0⟩ ?_ ?_
  · rintro k w i H6 hk ⟨rfl,hp6,hw⟩ J hJ
    have o6:=hp6.get o5
    have c6:=hp6.get c5
    have b6:=hp6.get b5
    have hX6:=hX5.trans hp6
    obtain⟨ml,mi,md,_⟩:=(hm.pre hX6).all Fl.zero
    rw [hlm] at ml
    obtain⟨vs,hvs,hvl,hvr⟩:=(hv.pre hX6).open
    obtain⟨_,vi,vd,_⟩:=hvs.allV
    have hk1:k<vs.length:=by omega
    have hk2:k<ms.length:=by omega
    have hxl:=row_len hA hk
    simp (disch:=omega) only [zA,zB,zC,zD,zF,zG,zH,↓reduceIte,ml,hk,o6,mi,md,hk2,c6,vi,vd,hk1]
    refine FZ.mono (rtimes_c (Q.ok b) b6 (hvr k hk) (by omega)) ?_
    rintro r7 H7 ⟨hp7,ha7⟩
    have o7:=hp7.get o6
    have hcl:=lcombk_length (cs:=ms) hA k (by omega)
    simp (disch:=omega) only [zA,zB,zC,zD,zF,zG,zH,↓reduceIte,o7]
    refine FZ.mono (rplus_c (Q.ok b) (hp7.get b6) (hw.pre hp7) ha7.row (by rw [List.length_map,hcl,hxl]) (by omega)) ?_
    rintro r8 H8 ⟨hp8,ha8⟩
    rw [lplus_more] at ha8
    simp (disch:=omega) only [zA,zB,zC,zD,zF,zG,zH,↓reduceIte]
    exact hJ _ _ _ ⟨rfl,hp6.trans (hp7.trans hp8),ha8.row⟩
  · rintro w i H6 ⟨rfl,hp6,hw⟩ J
    have hX6:=hX5.trans hp6
    obtain⟨ml,_,_,_⟩:=(hm.pre hX6).all Fl.zero
    rw [hlm] at ml
    simp (disch:=omega) only [zA,zB,zC,zD,zF,zG,zH,↓reduceIte,ml]
    exact⟨hX6,hw⟩
theorem comb_cong {c d:Nat→α} {R:Nat→Vc α}:∀ m,(∀ i,i<m→c i=d i)→comb c R m=comb d R m
  | 0,_=>rfl
  | k+1,h=>by rw [comb,comb,comb_cong k fun i hi=>h i (by omega),h k (by omega)]
end
end Go.Sim
