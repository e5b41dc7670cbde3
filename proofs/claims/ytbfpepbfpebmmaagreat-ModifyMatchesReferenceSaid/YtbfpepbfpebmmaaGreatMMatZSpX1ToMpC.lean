/- Part of the proof: ZSpX1, ZSpX2, ZSpX3, ZSpX5, MoW, MoZ, MpB, MpC. -/
import Derived.Test.YtbfpepbfpebmmaaGreatMMatZSpAToZSpU
import Derived.Test.YtbfpepbfpebmmaaGreatMMatMoAToMoJ
import Derived.Test.YtbfpepbfpebmmaaGreatMMatMoTToMoN
set_option linter.all false
namespace Go.Sim
section
variable {α:Type} [Fl α] [DecidableEq α]
open Fl
def dotn:Nat→Vc α→Vc α→α
  | 0,_,_=>zero
  | k+1,u,w=>add (dotn k u w) (mul (u k) (w k))
theorem ldotk_dotn (xs ys:List α):∀ k,ldotk xs ys k=dotn k (toV xs) (toV ys)
  | 0=>rfl
  | k+1=>by rw [ldotk,dotn,ldotk_dotn xs ys k];rfl
theorem qcd {u w u' w':Vc α}:∀ k,(∀ j,j<k→mul (u j) (w j)=mul (u' j) (w' j))→dotn k u w=dotn k u' w'
  | 0,_=>rfl
  | k+1,h=>by rw [dotn,dotn,qcd k (fun j hj=>h j (by omega)),h k (by omega)]
theorem qcq (u w:Vc α) (k:Nat):dotn k u w=dotn k w u:=qcd k fun _ _=>mul_comm _ _
theorem qsc (u u' w:Vc α):∀ k,dotn k (va u u') w=add (dotn k u w) (dotn k u' w)
  | 0=>(add_zero _).symm
  | k+1=>by
    rw [dotn,dotn,dotn,qsc u u' w k]
    show add _ (mul (add (u k) (u' k)) (w k))=_
    rw [Fl.add_mul,Fl.add_swap]
theorem dotn_vs (a:α) (u w:Vc α):∀ k,dotn k (vs a u) w=mul a (dotn k u w)
  | 0=>(Fl.mul_zero _).symm
  | k+1=>by
    rw [dotn,dotn,dotn_vs a u w k]
    show add _ (mul (mul a (u k)) (w k))=_
    rw [mul_assoc,mul_add]
theorem qng (w:Vc α):∀ k,dotn k vz w=zero
  | 0=>rfl
  | k+1=>by
    rw [dotn,qng w k]
    show add zero (mul zero (w k))=zero
    rw [Fl.zero_mul,add_zero]
theorem dotn_var (w u u':Vc α) (k:Nat):dotn k w (va u u')=add (dotn k w u) (dotn k w u'):=by rw [qcq,qsc,qcq u,qcq u']
theorem dotn_vsr (a:α) (w u:Vc α) (k:Nat):dotn k w (vs a u)=mul a (dotn k w u):=by rw [qcq,dotn_vs,qcq u]
theorem qqh (w:Vc α) (k:Nat):dotn k w vz=zero:=by rw [qcq,qng]
def vun (p:Nat):Vc α:=fun j=>if j=p then Fl.one else zero
theorem qnh (w:Vc α) (p:Nat):∀ k,k≤p→dotn k w (vun p)=zero
  | 0,_=>rfl
  | k+1,h=>by
    rw [dotn,qnh w p k (by omega),vun,if_neg (by omega),Fl.mul_zero,add_zero]
theorem qhd (w:Vc α) (p:Nat):∀ k,p<k→dotn k w (vun p)=w p
  | 0,h=>by omega
  | k + 1,h=>by
    rw [dotn]
    by_cases hp:k=p
    · subst hp
      rw [qnh w k k (Nat.le_refl _),vun,if_pos rfl,mul_one,Fl.zero_add]
    · rw [qhd w p k (by omega),vun,if_neg hp,Fl.mul_zero,add_zero]
theorem qfk (c:Nat→α) (R:Nat→Vc α) (j:Nat):∀ m,comb c R m j=dotn m c (fun i=>R i j)
  | 0=>rfl
  | k+1=>by
    show add (comb c R k j) (mul (c k) (R k j))=_
    rw [qfk c R j k];rfl
theorem dotn_comb (w:Vc α) (c:Nat→α) (R:Nat→Vc α) (n:Nat):∀ m,dotn n w (comb c R m)=dotn m c (fun i=>dotn n w (R i))
  | 0=>qqh w n
  | k+1=>by rw [comb,dotn_var,dotn_vsr,dotn_comb w c R n k];rfl
theorem qmq (c:Nat→α) (R:Nat→Vc α):∀ m,Span m R (comb c R m)
  | 0=>.zero
  | k+1=>.step _ ((qmq c R k).mono fun i hi=>Span.row (by omega)) (by omega)
theorem comb_unit' (R:Nat→Vc α) (c:α) (i:Nat) (m:Nat) (hi:i<m):comb (fun k=>if k=i then c else zero) R m=vs c (R i):=
  qmp R c i _ m hi (if_pos rfl) (fun k _ hk=>if_neg hk)
theorem span_comb {m:Nat} {R:Nat→Vc α} {v:Vc α} (h:Span m R v):∃ c,v=comb c R m:=by
  induction h with
  | zero=>exact⟨fun _=>zero,(qh4 R _ _ fun _ _=>rfl).symm⟩
  | @step w i c _ hi ih =>
    obtain⟨d,rfl⟩:=ih
    refine⟨fun k=>add (d k) (if k=i then c else zero),?_⟩
    rw [comb_add R d (fun k=>if k=i then c else zero) _ m (fun _ _=>rfl),comb_unit' R c i m hi]
theorem sub_eq {a b:α} (h:add a (mul (neg Fl.one) b)=zero):a=b:=by
  have h1:=congrFun (vneg (fun _:Nat=>b)) 0
  have h2:add b (mul (neg Fl.one) b)=zero:=h1
  have h3:add (mul (neg Fl.one) b) a=add (mul (neg Fl.one) b) b:=by rw [add_comm _ a,add_comm _ b,h,h2]
  exact Fl.add_left_cancel h3
def Nul (n:Nat) (S:Vc α→Prop) (u:Vc α):Prop:=(∀ j,n≤j→u j=zero)∧∀ w,S w→dotn n w u=zero
theorem Nul.vz {n:Nat} {S:Vc α→Prop}:Nul n S vz:=⟨fun _ _=>rfl,fun w _=>qqh w n⟩
theorem Nul.va {n:Nat} {S:Vc α→Prop} {u v:Vc α} (hu:Nul n S u) (hv:Nul n S v):Nul n S (va u v):=
  ⟨fun j hj=>by show add (u j) (v j)=zero;rw [hu.1 j hj,hv.1 j hj,add_zero],fun w hw=>by rw [dotn_var,hu.2 w hw,hv.2 w hw,add_zero]⟩
theorem Nul.vs {n:Nat} {S:Vc α→Prop} {u:Vc α} (a:α) (hu:Nul n S u):Nul n S (vs a u):=
  ⟨fun j hj=>by show mul a (u j)=zero;rw [hu.1 j hj,Fl.mul_zero],fun w hw=>by rw [dotn_vsr,hu.2 w hw,Fl.mul_zero]⟩
theorem Nul.cong {n:Nat} {S S':Vc α→Prop} (h:∀ w,S w↔S' w) (u:Vc α):Nul n S u↔Nul n S' u:=
  ⟨fun hu=>⟨hu.1,fun w hw=>hu.2 w ((h w).2 hw)⟩,fun hu=>⟨hu.1,fun w hw=>hu.2 w ((h w).1 hw)⟩⟩
theorem Nul.of {n m:Nat} {R:Nat→Vc α} {u:Vc α} (h0:∀ j,n≤j→u j=zero) (h:∀ i,i<m→dotn n (R i) u=zero):Nul n (Span m R) u:=by
  refine⟨h0,fun w hw=>?_⟩
  induction hw with
  | zero=>exact qng u n
  | step c _ hi ih=>rw [qsc,dotn_vs,ih,h _ hi,Fl.mul_zero,add_zero]
def nuV (R:Nat→Vc α) (P:Nat→Nat) (m c:Nat):Vc α:=va (vun c) (comb (fun i=>neg (R i c)) (fun i=>vun (P i)) m)
section
variable {n m:Nat} {R:Nat→Vc α} {P:Nat→Nat}
theorem Red.inj (h:Red m R P) {i j:Nat} (hi:i<m) (hj:j<m) (he:P i=P j):i=j:=by
  rcases Nat.lt_trichotomy i j with h1|h1|h1
  · have:=h.inc i j h1 hj;omega
  · exact h1
  · have:=h.inc j i h1 hi;omega
theorem Red.delta (h:Red m R P) {i k:Nat} (hi:i<m) (hk:k<m):R i (P k)=vun i k:=by
  unfold vun
  by_cases he:k=i
  · rw [if_pos he,he,h.one i hi]
  · rw [if_neg he];exact h.alone k i hk hi he
theorem nu_dot (hP:∀ i,i<m→P i<n) {c:Nat} (hc:c<n) (w:Vc α):dotn n w (nuV R P m c)=add (w c) (dotn m (fun i=>neg (R i c)) (fun i=>w (P i))):=by
  rw [nuV,dotn_var,qhd w c n hc,dotn_comb]
  congr 1
  exact qcd m fun i hi=>by rw [qhd w (P i) n (hP i hi)]
theorem qrk {c d:Nat} (hd:∀ i,i<m→P i≠d):nuV R P m c d=vun c d:=by
  show add (vun c d) (comb _ _ m d)=_
  rw [qfk,qcd (u':=vz) (w':=vz) m fun i hi=>by rw [vun,if_neg (Ne.symm (hd i hi)),Fl.mul_zero];exact (Fl.mul_zero _).symm,qng,add_zero]
theorem nu_span (h:Red m R P) (hP:∀ i,i<m→P i<n) (hR:∀ i j,i<m→n≤j→R i j=zero) {fr:List Nat} (hn:fr.Nodup) (hf:∀ c,c∈fr↔c<n∧∀ i,i<m→P i≠c) {N:List (List α)} (hl:N.length=fr.length) (hN:∀ k,k<fr.length→rowV N k=nuV R P m (fr.getD k 0)) (u:Vc α) :
    LSpan N u↔Nul n (Span m R) u:=by
  have hfr:∀ k,k<fr.length→fr.getD k 0<n∧∀ i,i<m→P i≠fr.getD k 0:=fun k hk=>(hf _).1 (getD_mem hk)
  have fwd:∀ u,LSpan N u→Nul n (Span m R) u:=by
    intro u hu
    refine hu.sub Nul.vz (fun _ _=>Nul.va) (fun c _=>Nul.vs c) fun x hx=>?_
    obtain⟨k,hk,rfl⟩:=List.mem_iff_getElem.1 hx
    have hk':k<fr.length:=by omega
    obtain⟨h1,h2⟩:=hfr k hk'
    rw [←qfd hk,hN k hk']
    refine Nul.of (fun j hj=>?_) fun i hi=>?_
    · rw [qrk (fun i hi=>by have:=hP i hi;omega),vun,if_neg (by omega)]
    · rw [nu_dot hP h1,qcd (u':=fun i=>neg (R i (fr.getD k 0))) (w':=vun i) m (fun l hl=>by rw [h.delta hi hl]),qhd _ i m hi,add_neg]
  refine⟨fwd u,fun hu=>?_⟩
  have hs:LSpan N (comb (fun k=>u (fr.getD k 0)) (rowV N) N.length):=qmq _ _ _
  generalize he:comb (fun k=>u (fr.getD k 0)) (rowV N) N.length=s at hs
  have hsn:=fwd s hs
  have hfree:∀ k,k<fr.length→s (fr.getD k 0)=u (fr.getD k 0):=by
    intro k hk
    rw [←he,qfk,qcd (u':=fun k=>u (fr.getD k 0)) (w':=vun k),qhd _ k _ (by omega)]
    intro l hl'
    have hl2:l<fr.length:=by omega
    congr 1
    rw [hN l hl2,qrk (hfr k hk).2]
    unfold vun
    by_cases hlk:l=k
    · rw [if_pos hlk,if_pos (by rw [hlk])]
    · rw [if_neg hlk,if_neg (qgs hn hk hl2 (Ne.symm hlk))]
  have hz:∀ j,j<n→(∀ i,i<m→P i≠j)→s j=u j:=by
    intro j hj hp
    obtain⟨k,hk,rfl⟩:=List.mem_iff_getElem.1 ((hf j).2 ⟨hj,hp⟩)
    have:=hfree k hk
    simpa [List.getD_eq_getElem?_getD,List.getElem?_eq_getElem hk] using this
  have hpv:∀ i,i<m→add (u (P i)) (mul (neg Fl.one) (s (P i)))=zero:=by
    intro i hi
    have ht:=(hu.va (hsn.vs (neg Fl.one))).2 (R i) (Span.row hi)
    rw [qcd (u':=va u (vs (neg Fl.one) s)) (w':=vun (P i)),qhd _ _ n (hP i hi)] at ht
    · exact ht
    intro j hj
    by_cases hjp:∃ k,k<m∧P k=j
    · obtain⟨k,hk,rfl⟩:=hjp
      rw [h.delta hi hk,mul_comm]
      congr 1
      unfold vun
      by_cases hki:k=i
      · rw [if_pos hki,if_pos (by rw [hki])]
      · rw [if_neg hki,if_neg (fun e=>hki (h.inj hk hi e))]
    · have hp:∀ i,i<m→P i≠j:=fun k hk hkj=>hjp ⟨k,hk,hkj⟩
      have:va u (vs (neg Fl.one) s) j=zero:=by
        show add (u j) (mul (neg Fl.one) (s j))=zero
        rw [hz j hj hp]
        exact congrFun (vneg u) j
      rw [this,Fl.mul_zero,Fl.zero_mul]
  have:u=s:=by
    funext j
    by_cases hj:j<n
    · by_cases hjp:∃ k,k<m∧P k=j
      · obtain⟨k,hk,rfl⟩:=hjp
        exact sub_eq (hpv k hk)
      · exact (hz j hj fun k hk hkj=>hjp ⟨k,hk,hkj⟩).symm
    · rw [hu.1 j (by omega),hsn.1 j (by omega)]
  rw [this]
  exact hs
theorem nul_nul (h:Red m R P) (hP:∀ i,i<m→P i<n) (hR:∀ i j,i<m→n≤j→R i j=zero) (u:Vc α):Nul n (Nul n (Span m R)) u↔Span m R u:=by
  constructor
  · intro hu
    have hs:Span m R (comb (fun i=>u (P i)) R m):=qmq _ _ _
    generalize he:comb (fun i=>u (P i)) R m=s at hs
    have hsP:∀ i,i<m→s (P i)=u (P i):=fun i hi=>by
      rw [←he,qfk,qcd (u':=fun i=>u (P i)) (w':=vun i) m,qhd _ i m hi]
      intro k hk
      congr 1
      rw [h.delta hk hi]
      unfold vun
      by_cases hki:k=i
      · rw [if_pos hki,if_pos hki.symm]
      · rw [if_neg hki,if_neg (Ne.symm hki)]
    have hs0:∀ j,n≤j→s j=zero:=fun j hj=>by
      rw [←he,qfk,qcd (u':=vz) (w':=vz) m (fun i hi=>by rw [hR i j hi hj,Fl.mul_zero];exact (Fl.mul_zero _).symm),qng]
    have hsn:Nul n (Nul n (Span m R)) s:=⟨hs0,fun w hw=>by rw [qcq];exact hw.2 s hs⟩
    have ht:=hu.va (hsn.vs (neg Fl.one))
    have:u=s:=by
      funext j
      by_cases hj:j<n
      · by_cases hjp:∃ k,k<m∧P k=j
        · obtain⟨k,hk,rfl⟩:=hjp
          exact (hsP k hk).symm
        · have hp:∀ i,i<m→P i≠j:=fun k hk hkj=>hjp ⟨k,hk,hkj⟩
          have hnu:Nul n (Span m R) (nuV R P m j):=by
            refine Nul.of (fun l hl=>?_) fun i hi=>?_
            · rw [qrk (fun i hi=>by have:=hP i hi;omega),vun,if_neg (by omega)]
            · rw [nu_dot hP hj,qcd (u':=fun i=>neg (R i j)) (w':=vun i) m (fun l hl=>by rw [h.delta hi hl]),qhd _ i m hi,add_neg]
          have h1:=ht.2 _ hnu
          rw [qcq,nu_dot hP hj,qcd (u':=fun i=>neg (R i j)) (w':=vz) m,qqh,add_zero] at h1
          · exact sub_eq h1
          intro i hi
          congr 1
          show add (u (P i)) (mul (neg Fl.one) (s (P i)))=zero
          rw [hsP i hi]
          exact congrFun (vneg u) _
      · rw [hu.1 j (by omega),hs0 j (by omega)]
    rw [this]
    exact hs
  · intro hu
    refine⟨fun j hj=>?_,fun w hw=>by rw [qcq];exact hw.2 u hu⟩
    obtain⟨c,rfl⟩:=span_comb hu
    rw [qfk,qcd (u':=vz) (w':=vz) m (fun i hi=>by rw [hR i j hi hj,Fl.mul_zero];exact (Fl.mul_zero _).symm),qng]
end
end
end Go.Sim

namespace Go.Sim
section
variable {α:Type} [Fl α] [DecidableEq α]
open Fl
theorem qg6 {β:Type} [DecidableEq β]:∀ (l l':List β),l.Nodup→(∀ x∈l,x∈l')→l.length≤l'.length
  | [],_,_,_=>Nat.zero_le _
  | x :: l,l',hn,hs=>by
    have hn':=List.nodup_cons.1 hn
    have hx:x∈l':=hs x (by simp)
    have h:=qg6 l (l'.erase x) hn'.2 (fun y hy=>(List.mem_erase_of_ne (fun e=>hn'.1 (by rw [←e];exact hy))).2 (hs y (by simp [hy])))
    have h2:=List.length_erase_of_mem hx
    have h3:0<l'.length:=List.length_pos_iff.2 (fun e=>by rw [e] at hx;simp at hx)
    simp only [List.length_cons]
    omega
theorem lclr_span {n:Nat} {B:List (List α)} {v:List α} (hB:LRed n B) (hv:v.length=n):lpiv (lclr B v)=(lclr B v).length↔LSpan B (toV v):=by
  have hl:=hB.piv.1
  have hwl:=qg9 hl hv
  obtain⟨s,hs1,hs2⟩:=qnb hl hv B.length (Nat.le_refl _)
  have hz:=qm9 hB hv B.length (Nat.le_refl _)
  change toV (lclr B v)=_ at hs2
  change ∀ i,i<B.length→toV (lclr B v) _=zero at hz
  constructor
  · intro h0
    have hw0:toV (lclr B v)=vz:=by
      funext j
      by_cases hj:j<(lclr B v).length
      · exact qcv _ _ (by omega)
      · exact qft (by omega)
    have h:va (va (toV v) s) (vs (neg Fl.one) s)=toV v:=by rw [qg3,vneg,qc3]
    rw [←h,←hs2,hw0,qj3]
    exact Span.smul _ hs1
  · intro hv2
    have hw:LSpan B (toV (lclr B v)):=by rw [hs2];exact Span.add hv2 hs1
    have hc:=hB.red.coord hw
    have h0:toV (lclr B v)=vz:=by
      rw [hc]
      exact qh4 _ _ _ fun i hi=>hz i hi
    have hle:=lpiv_le (lclr B v)
    by_cases hlt:lpiv (lclr B v)<(lclr B v).length
    · exact absurd (congrFun h0 _) (qm4 _ hlt)
    · omega
theorem lhas_iff {n:Nat} {rows:List (List α)} {v:List α} (hl:∀ x∈rows,x.length=n) (hv:v.length=n):lhas rows v=true↔LSpan rows (toV v):=by
  obtain⟨h1,h2,_⟩:=qbz hl
  rw [lhas,decide_eq_true_iff,←h2,←lclr_span h1 hv,qg9 h1.piv.1 hv,hv]
theorem qrw {p:Nat} {w:List α}:∀ l:List (List α),(lins p w l).length=l.length+1
  | []=>rfl
  | x :: l=>by
    unfold lins
    split
    · simp
    · simp [qrw l]
theorem qrs (B:List (List α)) (v:List α):(lput B v).length=if lpiv (lclr B v)=(lclr B v).length then B.length else B.length+1:=by
  unfold lput
  simp only
  split
  · rfl
  · rw [lputF_lins,qrw]
theorem qnz (rows:List (List α)) (v:List α):qbk (rows++[v])=lput (qbk rows) v:=by simp [qbk,List.foldl_append]
theorem has_count {n:Nat} {rows:List (List α)} {v:List α} (hl:∀ x∈rows,x.length=n) (hv:v.length=n):decide ((qbk (rows++[v])).length=(qbk rows).length)=lhas rows v:=by
  obtain⟨h1,h2,_⟩:=qbz hl
  rw [qnz,qrs,lhas,hv,qg9 h1.piv.1 hv]
  split
  · simp [*]
  · simp [*]
theorem qk9 {n:Nat} {rows:List (List α)} (hl:∀ x∈rows,x.length=n) (h:∀ k,k<rows.length→¬LSpan (rows.take k) (toV (rows.getD k []))):(qbk rows).length=rows.length:=by
  have key:∀ k,k≤rows.length→(qbk (rows.take k)).length=k:=by
    intro k
    induction k with
    | zero=>intro _;rfl
    | succ k ih =>
      intro hk
      have hlk:∀ x∈rows.take k,x.length=n:=fun x hx=>hl x (List.mem_of_mem_take hx)
      have hv:=qb5 hl (show k<rows.length by omega)
      have he:rows.take (k+1)=rows.take k++[rows.getD k []]:=by
        rw [List.take_succ_eq_append_getElem (by omega),qcb (by omega)]
      have hh:=h k (by omega)
      rw [←lhas_iff hlk hv,←has_count hlk hv,←he] at hh
      simp only [decide_eq_true_iff] at hh
      rw [he,qnz,qrs] at hh ⊢
      have:=ih (by omega)
      split
      · rename_i h1;rw [if_pos h1] at hh;exact absurd rfl hh
      · omega
  have:=key rows.length (Nat.le_refl _)
  rwa [List.take_length] at this
def qcz (m:Nat) (w:Vc α):Vc α:=fun j=>if j<m then zero else w (j-m)
def vdrop (m:Nat) (v:Vc α):Vc α:=fun j=>v (j+m)
theorem qqx (m:Nat) (w:Vc α):vdrop m (qcz m w)=w:=by
  funext j
  show (if j+m<m then zero else w (j+m-m))=w j
  rw [if_neg (by omega),Nat.add_sub_cancel]
theorem vshift_drop {m:Nat} {v:Vc α} (h:∀ j,j<m→v j=zero):qcz m (vdrop m v)=v:=by
  funext j
  unfold qcz vdrop
  split
  · rename_i hj;exact (h j hj).symm
  · congr 1;omega
theorem vshift_va (m:Nat) (u v:Vc α):qcz m (va u v)=va (qcz m u) (qcz m v):=by
  funext j
  show (if _ then _ else _)=add (if _ then _ else _) (if _ then _ else _)
  split
  · exact (add_zero _).symm
  · rfl
theorem vshift_vs (m:Nat) (c:α) (v:Vc α):qcz m (vs c v)=vs c (qcz m v):=by
  funext j
  show (if _ then _ else _)=mul c (if _ then _ else _)
  split
  · exact (Fl.mul_zero _).symm
  · rfl
theorem vshift_vz (m:Nat):qcz m (vz:Vc α)=vz:=by
  funext j
  unfold qcz;split<;>rfl
theorem qkv (x:List α) (m:Nat):toV (x.drop m)=vdrop m (toV x):=by
  funext j
  simp only [toV,vdrop,List.getD_eq_getElem?_getD,List.getElem?_drop,Nat.add_comm]
def ltail (m:Nat) (L:List (List α)):List (List α):=(L.filter fun l=>decide (m≤lpiv l)).map fun l=>l.drop m
theorem qrt {x:List α} {m:Nat} (h:m≤lpiv x) (hx:lpiv x<x.length):lpiv (x.drop m)=lpiv x-m:=by
  refine lpiv_eq (by rw [List.length_drop];omega) (fun j hj=>?_) ?_
  · have:=congrFun (qkv x m) j
    refine this.trans (qcv x (j+m) (by omega))
  · have h1:=congrFun (qkv x m) (lpiv x-m)
    intro h2
    have h3:=h1.symm.trans h2
    unfold vdrop at h3
    rw [Nat.sub_add_cancel h] at h3
    exact qm4 x hx h3
theorem ltail_red {m n:Nat} {L:List (List α)} (h:LRed (m+n) L):LRed n (ltail m L)∧∀ u,LSpan (ltail m L) u↔LSpan L (qcz m u):=by
  have mem:∀ x∈L.filter (fun l=>decide (m≤lpiv l)),x∈L∧m≤lpiv x:=fun x hx=>by simpa using List.mem_filter.1 hx
  have at_:∀ (x:List α) j,m≤j→(x.drop m).getD (j-m) zero=x.getD j zero:=fun x j hj=>by
    have:=congrFun (qkv x m) (j-m)
    unfold vdrop at this
    rw [Nat.sub_add_cancel hj] at this
    exact this
  refine⟨⟨fun y hy=>?_,?_⟩,fun u=>⟨fun hu=>?_,fun hu=>?_⟩⟩
  · obtain⟨x,hx,rfl⟩:=List.mem_map.1 hy
    obtain⟨hxL,hp⟩:=mem x hx
    obtain⟨h1,h2,h3⟩:=h.row x hxL
    rw [qrt hp (by omega),at_ x _ hp]
    exact⟨by rw [List.length_drop];omega,by omega,h3⟩
  · unfold ltail
    rw [List.pairwise_map]
    refine (h.pw.filter _).imp_of_mem fun {a b} ha hb hab=>?_
    obtain⟨haL,hpa⟩:=mem a ha
    obtain⟨hbL,hpb⟩:=mem b hb
    have ra:=h.row a haL
    have rb:=h.row b hbL
    rw [qrt hpa (by omega),qrt hpb (by omega),at_ a _ hpb,at_ b _ hpa]
    exact⟨by have:=hab.1;omega,hab.2⟩
  · refine hu.sub (S:=fun u=>LSpan L (qcz m u)) ?_ (fun u v hu hv=>?_) (fun c u hu=>?_) (fun y hy=>?_)
    · show LSpan L (qcz m vz);rw [vshift_vz];exact .zero
    · show LSpan L (qcz m (va u v));rw [vshift_va];exact Span.add hu hv
    · show LSpan L (qcz m (vs c u));rw [vshift_vs];exact Span.smul _ hu
    · obtain⟨x,hx,rfl⟩:=List.mem_map.1 hy
      obtain⟨hxL,hp⟩:=mem x hx
      show LSpan L (qcz m (toV (x.drop m)))
      rw [qkv,vshift_drop (v:=toV x) (fun j hj=>qcv x j (by omega))]
      exact LSpan.mem hxL
  · have hc:=h.red.coord hu
    obtain⟨c,hcd⟩:∃ c:Nat→α,c=fun i=>qcz m u (lpiv (L.getD i [])):=⟨_,rfl⟩
    rw [←hcd] at hc
    have hz:∀ i,i<L.length→c i=zero∨m≤lpiv (L.getD i []):=fun i hi=>by
      rw [hcd]
      by_cases hlt:lpiv (L.getD i [])<m
      · left;show qcz m u _=zero;unfold qcz;rw [if_pos hlt]
      · right;omega
    have key:∀ k,k≤L.length→LSpan (ltail m L) (vdrop m (comb c (rowV L) k)):=by
      intro k
      induction k with
      | zero=>intro _;exact .zero
      | succ k ih =>
        intro hk
        show LSpan (ltail m L) (va (vdrop m (comb c (rowV L) k)) (vs (c k) (vdrop m (rowV L k))))
        rcases hz k (by omega) with h0|h0
        · rw [show c k=zero from h0,qgg,qc3];exact ih (by omega)
        · refine Span.add (ih (by omega)) (Span.smul _ ?_)
          rw [qfd (show k<L.length by omega),←qkv]
          rw [qcb (show k<L.length by omega)] at h0
          exact LSpan.mem (List.mem_map.2 ⟨_,List.mem_filter.2 ⟨List.getElem_mem _,by simpa using h0⟩,rfl⟩)
    have:=key L.length (Nat.le_refl _)
    rw [←hc,qqx] at this
    exact this
theorem laug_row {n:Nat} (rows:List (List α)) {j:Nat} (hj:j<n) (i:Nat):rowV (laug n rows) j i=if i<rows.length then rowV rows i j else vun j (i-rows.length):=by
  have hl:j<(laug n rows).length:=by simpa [laug] using hj
  rw [qfd hl]
  have he:(laug n rows)[j]=rows.map (fun r=>r.getD j zero)++qdg n j:=by simp [laug]
  rw [he]
  unfold toV
  rw [List.getD_eq_getElem?_getD]
  split
  · rename_i hi
    rw [List.getElem?_append_left (by simpa using hi)]
    simp [rowV,toV,List.getD_eq_getElem?_getD,List.getElem?_eq_getElem hi]
  · rename_i hi
    rw [List.getElem?_append_right (by simpa using Nat.le_of_not_lt hi),List.length_map,←List.getD_eq_getElem?_getD,qdg,getD_set (by simpa using hj),vun]
    split
    · rfl
    · simp [List.getD_eq_getElem?_getD,List.getElem?_replicate]
      split<;>rfl
theorem qq0 {n:Nat} {L:List (List α)} (hl:∀ x∈L,x.length=n) {i j:Nat} (hi:i<L.length) (hj:n≤j):rowV L i j=zero:=by
  rw [qfd hi];exact qft (by rw [hl _ (List.getElem_mem hi)];exact hj)
theorem qg8 {n:Nat} {rows:List (List α)} (hl:∀ x∈rows,x.length=n):LRed n (qcn n rows)∧∀ u,LSpan (qcn n rows) u↔Nul n (LSpan rows) u:=by
  obtain⟨h1,h2,_⟩:=qbz (laug_len (n:=n) (rows:=rows) rfl)
  obtain⟨h3,h4⟩:=ltail_red h1
  refine⟨h3,fun u=>(h4 u).trans ((h2 _).trans ?_)⟩
  have hlen:(laug n rows).length=n:=by simp [laug]
  have hdot:∀ i,i<rows.length→∀ c:Vc α,dotn n c (fun j=>rowV (laug n rows) j i)=dotn n c (rowV rows i):=fun i hi c=>qcd n fun j hj=>by rw [laug_row rows hj,if_pos hi]
  have htail:∀ i,∀ c:Vc α,dotn n c (fun j=>rowV (laug n rows) j (i+rows.length))=if i<n then c i else zero:=fun i c=>by
    rw [qcd (u':=c) (w':=vun i) n fun j hj=>by
      rw [laug_row rows hj,if_neg (by omega),Nat.add_sub_cancel]
      congr 1
      unfold vun
      by_cases h:i=j
      · rw [if_pos h,if_pos h.symm]
      · rw [if_neg h,if_neg (Ne.symm h)]]
    split
    · rename_i h;exact qhd c i n h
    · rename_i h;exact qnh c i n (by omega)
  constructor
  · intro h
    obtain⟨c,hc⟩:=span_comb h
    rw [hlen] at hc
    have hu:∀ i,u i=if i<n then c i else zero:=fun i=>by
      have h5:=congrFun hc (i+rows.length)
      rw [qfk,htail] at h5
      rw [←h5]
      exact (congrFun (qqx rows.length u) i).symm
    refine Nul.of (fun j hj=>by rw [hu j,if_neg (by omega)]) fun i hi=>?_
    have h6:=congrFun hc i
    rw [qfk,hdot i hi] at h6
    have h7:qcz rows.length u i=zero:=by unfold qcz;rw [if_pos hi]
    rw [h7,qcq] at h6
    rw [h6]
    exact qcd n fun j hj=>by rw [hu j,if_pos hj]
  · intro h
    have:qcz rows.length u=comb u (rowV (laug n rows)) (laug n rows).length:=by
      rw [hlen]
      funext i
      rw [qfk]
      by_cases hi:i<rows.length
      · rw [hdot i hi,qcq]
        unfold qcz
        rw [if_pos hi]
        exact (h.2 _ (Span.row hi)).symm
      · have hi':i=(i-rows.length)+rows.length:=by omega
        generalize i-rows.length=k at hi'
        subst hi'
        rw [htail]
        unfold qcz
        rw [if_neg hi,Nat.add_sub_cancel]
        split
        · rfl
        · exact h.1 k (by omega)
    rw [this]
    exact qmq _ _ _
theorem kernel_kernel {n:Nat} {rows:List (List α)} (hl:∀ x∈rows,x.length=n):qcn n (qcn n rows)=qbk rows:=by
  obtain⟨h1,h2⟩:=qg8 hl
  obtain⟨h3,h4⟩:=qg8 h1.piv.1
  obtain⟨h5,h6,_⟩:=qbz hl
  refine h3.unique h5 fun u=>(h4 u).trans ?_
  rw [Nul.cong h2,Nul.cong (S':=Nul n (LSpan (qbk rows))) (fun w=>Nul.cong (fun v=>(h6 v).symm) w)]
  exact nul_nul h5.red (fun i hi=>(h5.row _ (getD_mem hi)).2.1) (fun i j hi hj=>qq0 h5.piv.1 hi hj) u
end
end Go.Sim

namespace Go.Sim
section
variable {α:Type} [Fl α] [DecidableEq α]
open Fl
theorem RedTo.red {n:Nat} {M:List (List α)} {P:List Nat} {w:Nat} (h:RedTo n w M P):Red P.length (rowV M) (fun i=>P.getD i 0):=
  ⟨h.inc,h.one,fun i k hi hk hne=>h.alone i k hi (by have:=h.len;omega) (Ne.symm hne),h.lead⟩
end
end Go.Sim

namespace Go.Sim
section
variable {α:Type} [Fl α] [DecidableEq α]
open Fl
theorem qpd {β:Type} (p:β→Bool):∀ l:List β,l.length=(l.filter p).length+(l.filter fun x=>!p x).length
  | []=>rfl
  | x :: l=>by
    have:=qpd p l
    cases h:p x<;>simp [List.filter_cons,h]<;>omega
def qgx (n:Nat) (P:List Nat):List Nat:=(List.range n).filter fun c=>decide (c∉P)
def qdv (n:Nat) (M:List (List α)) (P:List Nat) (c:Nat):Nat→List α
  | 0=>qdg n c
  | k+1=>(qdv n M P c k).set (P.getD k 0) (neg (ent M k c))
def qfg (n:Nat) (M:List (List α)) (P:List Nat):List (List α):=(qgx n P).map fun c=>qdv n M P c P.length
theorem qct (n:Nat) (M:List (List α)) (P:List Nat) (c:Nat):∀ k,(qdv n M P c k).length=n
  | 0=>by simp [qdv,qdg]
  | k+1=>by simp [qdv,qct n M P c k]
theorem qm5 (n:Nat) (M:List (List α)) (P:List Nat):∀ x∈qfg n M P,x.length=n:=by
  intro x hx
  obtain⟨c,_,rfl⟩:=List.mem_map.1 hx
  exact qct _ _ _ _ _
theorem toV_set {xs:List α} {p:Nat} {a:α} (hp:p<xs.length):toV (xs.set p a)=fun j=>if j=p then a else toV xs j:=by
  funext j
  exact getD_set hp
theorem toV_unit {n c:Nat} (hc:c<n):toV (qdg (α:=α) n c)=vun c:=by
  unfold qdg
  rw [toV_set (by simpa using hc),toV_zero]
  rfl
theorem mem_getD {P:List Nat} {c:Nat}:c∈P↔∃ i,i<P.length∧P.getD i 0=c:=by
  rw [List.mem_iff_getElem]
  exact⟨fun ⟨i,hi,h⟩=>⟨i,hi,by rw [List.getD_eq_getElem?_getD,List.getElem?_eq_getElem hi];exact h⟩,fun ⟨i,hi,h⟩=>⟨i,hi,by rw [List.getD_eq_getElem?_getD,List.getElem?_eq_getElem hi] at h;exact h⟩⟩
section
variable {n:Nat} {M:List (List α)} {P:List Nat}
theorem qm6 (h:RedTo n n M P) {c:Nat} (hc:c<n) (hcP:c∉P):∀ k,k≤P.length→toV (qdv n M P c k)=nuV (rowV M) (fun i=>P.getD i 0) k c
  | 0,_=>by rw [qdv,toV_unit hc,nuV,comb,qc3]
  | k + 1,hk=>by
    have hp:=h.lt k (by omega)
    rw [qdv,toV_set (by rw [qct];exact hp),qm6 h hc hcP k (by omega)]
    funext j
    show _=add (vun c j) (add (comb _ _ k j) (mul (neg (rowV M k c)) (vun (P.getD k 0) j)))
    rw [←add_assoc]
    by_cases hj:j=P.getD k 0
    · subst hj
      have h0:nuV (rowV M) (fun i=>P.getD i 0) k c (P.getD k 0)=vun c (P.getD k 0):=qrk fun i hi=>by
        have:=h.inc i k hi (by omega);show P.getD i 0≠P.getD k 0;omega
      have h1:vun c (P.getD k 0)=(zero:α):=if_neg fun e=>hcP (mem_getD.2 ⟨k,by omega,e⟩)
      have h2:add (vun c (P.getD k 0)) (comb (fun i=>neg (rowV M i c)) (fun i=>vun (P.getD i 0)) k (P.getD k 0))=(zero:α):=by rw [←h1];exact h0
      rw [h2,if_pos rfl,vun,if_pos rfl,mul_one,Fl.zero_add]
      rfl
    · rw [if_neg hj,show vun (P.getD k 0) j=(zero:α) from if_neg hj,Fl.mul_zero,add_zero]
      rfl
theorem frees_mem {c:Nat}:c∈qgx n P↔c<n∧c∉P:=by simp [qgx]
theorem qr6:(qgx n P).Nodup:=List.Pairwise.filter _ List.nodup_range
theorem lnulls_span (h:RedTo n n M P) (u:Vc α):LSpan (qfg n M P) u↔Nul n (LSpan M) u:=by
  obtain⟨_,hd⟩:=h.done
  have hlen:=h.len
  have hM:∀ u,Span P.length (rowV M) u↔LSpan M u:=fun u=>by
    rw [←hd u]
    have hl:(M.take P.length).length=P.length:=by rw [List.length_take];omega
    have e:∀ i,i<P.length→rowV (M.take P.length) i=rowV M i:=fun i hi=>by
      unfold rowV
      rw [show (M.take P.length).getD i []=M.getD i [] by simp only [List.getD_eq_getElem?_getD,List.getElem?_take_of_lt hi]]
    unfold LSpan
    rw [hl]
    exact⟨Span.mono fun i hi=>by rw [←e i hi];exact Span.row hi,Span.mono fun i hi=>by rw [e i hi];exact Span.row hi⟩
  rw [Nul.cong (fun w=>(hM w).symm)]
  have hfree:∀ c,c∈qgx n P↔c<n∧∀ i,i<P.length→P.getD i 0≠c:=fun c=>by
    rw [frees_mem,mem_getD]
    exact⟨fun ⟨a,b⟩=>⟨a,fun i hi e=>b ⟨i,hi,e⟩⟩,fun ⟨a,b⟩=>⟨a,fun ⟨i,hi,e⟩=>b i hi e⟩⟩
  refine nu_span h.red h.lt (fun i j hi hj=>?_) qr6 hfree (by simp [qfg]) (fun k hk=>?_) u
  · exact qq0 h.width (by omega) hj
  · have h1:(qgx n P).getD k 0∈qgx n P:=getD_mem hk
    obtain⟨h2,h3⟩:=frees_mem.1 h1
    rw [←qm6 h h2 h3 _ (Nat.le_refl _)]
    unfold rowV qfg
    congr 1
    simp [List.getD_eq_getElem?_getD,List.getElem?_eq_getElem hk]
theorem qmb (h:RedTo n n M P) {rows:List (List α)} (hl:∀ x∈rows,x.length=n) (hs:∀ u,LSpan M u↔LSpan rows u):qbk (qfg n M P)=qcn n rows:=by
  obtain⟨h1,h2,_⟩:=qbz (qm5 n M P)
  obtain⟨h3,h4⟩:=qg8 hl
  refine h1.unique h3 fun u=>?_
  rw [h2,lnulls_span h,h4,Nul.cong hs]
theorem frees_length (h:RedTo n n M P):(qgx n P).length+P.length=n:=by
  have hN:P.Nodup:=by
    rw [List.Nodup,List.pairwise_iff_getElem]
    intro i j hi hj hij
    have:=h.inc i j hij hj
    simp only [List.getD_eq_getElem?_getD,List.getElem?_eq_getElem hi,List.getElem?_eq_getElem hj,Option.getD_some] at this
    omega
  have h1:=qpd (fun c=>decide (c∉P)) (List.range n)
  have h2:((List.range n).filter (fun c=>!decide (c∉P))).length=P.length:=by
    refine Nat.le_antisymm (qg6 _ _ (List.Pairwise.filter _ List.nodup_range) fun x hx=>?_) (qg6 _ _ hN fun x hx=>?_)
    · simpa using (List.mem_filter.1 hx).2
    · refine List.mem_filter.2 ⟨?_,by simpa using hx⟩
      obtain⟨i,hi,rfl⟩:=mem_getD.1 hx
      exact List.mem_range.2 (h.lt i hi)
  rw [List.length_range,h2] at h1
  exact h1.symm
theorem lnulls_rank (h:RedTo n n M P):(qbk (qfg n M P)).length=(qgx n P).length:=by
  have hlen:(qfg n M P).length=(qgx n P).length:=by simp [qfg]
  rw [qk9 (qm5 n M P),hlen]
  intro k hk hs
  rw [hlen] at hk
  have row:∀ i,i<(qgx n P).length→rowV (qfg n M P) i ((qgx n P).getD k 0)=vun ((qgx n P).getD i 0) ((qgx n P).getD k 0):=by
    intro i hi
    obtain⟨h2,h3⟩:=frees_mem.1 (getD_mem (l:=qgx n P) (d:=0) hi)
    obtain⟨_,h5⟩:=frees_mem.1 (getD_mem (l:=qgx n P) (d:=0) hk)
    have e:rowV (qfg n M P) i=toV (qdv n M P ((qgx n P).getD i 0) P.length):=by
      unfold rowV qfg
      congr 1
      simp [List.getD_eq_getElem?_getD,List.getElem?_eq_getElem hi]
    rw [e,qm6 h h2 h3 _ (Nat.le_refl _)]
    exact qrk fun l hl e=>h5 (mem_getD.2 ⟨l,hl,e⟩)
  have h1:toV ((qfg n M P).getD k []) ((qgx n P).getD k 0)=zero:=by
    refine hs.sub (S:=fun u=>u ((qgx n P).getD k 0)=zero) rfl (fun u v hu hv=>?_) (fun c u hu=>?_) (fun x hx=>?_)
    · show add (u _) (v _)=zero;rw [hu,hv,add_zero]
    · show mul c (u _)=zero;rw [hu,Fl.mul_zero]
    · obtain⟨i,hi,rfl⟩:=List.mem_iff_getElem.1 hx
      rw [List.length_take] at hi
      rw [List.getElem_take,←qfd (show i<(qfg n M P).length by omega),row i (by omega)]
      exact if_neg fun e=>qgs (qr6 (n:=n) (P:=P)) hk (show i<_ by omega) (by omega) e
  have h2:=row k hk
  rw [vun,if_pos rfl] at h2
  exact one_ne (h2.symm.trans h1)
end
theorem redto_exists {n:Nat} {A:List (List α)} (hl:∀ x∈A,x.length=n):∀ w,w≤n→∃ M P,RedTo n w M P∧M.length=A.length∧∀ u,LSpan M u↔LSpan A u:=by
  intro w
  induction w with
  | zero=>intro _;exact⟨A,[],RedTo.start hl,rfl,fun _=>Iff.rfl⟩
  | succ w ih =>
    intro hw
    obtain⟨M,P,h,h2,h3⟩:=ih (by omega)
    by_cases hp:∃ i,P.length≤i∧i<M.length∧ent M i w≠zero
    · obtain⟨i,h4,h5,h6⟩:=hp
      exact⟨_,_,h.step h5 h4 h6,by rw [qcm,qdz,h2],fun u=>(qq2 h.width (by omega) h5 h6 u).trans (h3 u)⟩
    · exact⟨M,P,h.skip fun k hk hk2=>Classical.byContradiction fun hne=>hp ⟨k,hk,hk2,hne⟩,h2,h3⟩
theorem rank_null {n:Nat} {A:List (List α)} (hl:∀ x∈A,x.length=n):(qcn n A).length+(qbk A).length=n:=by
  obtain⟨M,P,h,_,h3⟩:=redto_exists hl n (Nat.le_refl n)
  rw [←qmb h hl h3,lnulls_rank h,←reduced_eq hl h h3,List.length_take,Nat.min_eq_left h.len]
  exact frees_length h
end
end Go.Sim

namespace Go.Sim
open Fl
section
variable {α:Type} [Fl α] [DecidableEq α]
theorem Cd.dual {n:Nat} {G:List (List α)} {S:Vc α→Prop} (h:Cd n G S):Cd n (qcn n G) (Nul n S):=by
  obtain⟨h1,h2⟩:=qg8 (n:=n) h.red.len
  exact⟨h1,fun u=>(h2 u).trans (Nul.cong h.span u)⟩
theorem dual_dual {n:Nat} {G:List (List α)} (h:LRed n G):qcn n (qcn n G)=G:=(kernel_kernel h.len).trans (lred_self h)
theorem qqg {n:Nat} {G:List (List α)} (h:LRed n G):LRed n (qcn n G):=(Cd.self h).dual.red
section
variable {n i:Nat} {w v:Vc α}
theorem dot_skip:∀ {n:Nat},i<n→dotn n w v=Fl.add (dotn (n-1) (vskip i w) (vskip i v)) (Fl.mul (w i) (v i))
  | 0,h=>by omega
  | m + 1,h=>by
    rw [dotn,Nat.add_sub_cancel]
    by_cases hi:i=m
    · subst hi
      congr 1
      refine (qcd i fun j hj=>?_)
      unfold vskip qc0
      rw [if_pos hj]
    · have hm:i<m:=by omega
      rw [dot_skip hm]
      obtain⟨k,rfl⟩:∃ k,m=k+1:=⟨m-1,by omega⟩
      rw [Nat.add_sub_cancel,dotn,Fl.add_assoc,Fl.add_assoc,Fl.add_comm (Fl.mul (w i) (v i))]
      congr 2
      unfold vskip qc0
      rw [if_neg (by omega)]
def vins (i:Nat) (u:Vc α):Vc α:=fun j=>if j<i then u j else if j=i then Fl.zero else u (j-1)
theorem vins_at (i:Nat) (u:Vc α):vins i u i=Fl.zero:=by unfold vins;rw [if_neg (by omega),if_pos rfl]
theorem vskip_vins (i:Nat) (u:Vc α):vskip i (vins i u)=u:=by
  funext j
  unfold vskip vins qc0
  by_cases h:j<i
  · rw [if_pos h,if_pos h]
  · rw [if_neg h,if_neg (by omega),if_neg (by omega),Nat.add_sub_cancel]
end
section
variable {n i:Nat} {G:List (List α)}
theorem dual_punct (h:LRed n G) (hi:i<n):qbk ((qf0 (fun v=>v i) (qcn n G)).map (pick (n-1) (qc0 i)))=qcn (n-1) (qbk (G.map (pick (n-1) (qc0 i)))):=by
  refine ((Cd.self h).dual.short hi).eq ((Cd.self h).punct hi).dual fun u=>?_
  constructor
  · rintro⟨v,⟨hv0,hv⟩,hvi,rfl⟩
    refine⟨fun j hj=>hv0 _ (by unfold qc0;split<;>omega),?_⟩
    rintro _ ⟨w,hw,rfl⟩
    have:=hv w hw
    rwa [dot_skip hi,hvi,Fl.mul_zero,Fl.add_zero] at this
  · rintro⟨h0,hu⟩
    refine⟨vins i u,⟨fun j hj=>?_,fun w hw=>?_⟩,vins_at i u,(vskip_vins i u).symm⟩
    · unfold vins
      rw [if_neg (by omega),if_neg (by omega),h0 _ (by omega)]
    · rw [dot_skip hi,vins_at,Fl.mul_zero,Fl.add_zero,vskip_vins]
      exact hu _ ⟨w,hw,rfl⟩
end
def addL (f:Nat→α) (l:List Nat):α:=l.foldr (fun j a=>Fl.add (f j) a) Fl.zero
def vone (n:Nat):Vc α:=fun j=>if j<n then Fl.one else Fl.zero
theorem toV_ones (n:Nat):toV (List.replicate n (Fl.one:α))=vone n:=by
  funext j
  simp only [toV,vone,List.getD_eq_getElem?_getD,List.getElem?_replicate]
  split<;>rfl
theorem dot_one (w:Vc α) (n:Nat):∀ k,k≤n→dotn k w (vone n)=vsum k w
  | 0,_=>rfl
  | k+1,h=>by
    rw [dotn,vsum,dot_one w n k (by omega)]
    unfold vone
    rw [if_pos (by omega),Fl.mul_one]
def ldbl (n:Nat) (A B:List (List α)):List (List α):=A.map (pick (n+n) fun j=>if j<n then j else j-n)++B.map (pick (n+n) fun j=>if j<n then n else j-n)
theorem ldbl_len {n:Nat} (A B:List (List α)):∀ x∈ldbl n A B,x.length=n+n:=by
  intro x hx
  rcases List.mem_append.1 hx with h|h
  · obtain⟨y,_,rfl⟩:=List.mem_map.1 h;exact qck _ _ _
  · obtain⟨y,_,rfl⟩:=List.mem_map.1 h;exact qck _ _ _
end
end Go.Sim

namespace Go.Sim
open Go Go.Proofs
section
variable {α:Type} [Fl α] [DecidableEq α] {cd:α→Nat} {p e b c q:Nat} {blk:AB} {H:AH}
theorem LRed.le {n:Nat} {A:List (List α)} (h:LRed n A):A.length≤n:=by
  have:=rank_null h.len
  rw [lred_self h] at this
  omega
end
end Go.Sim

namespace Go.Sim
open Go Go.Proofs
section
variable {α:Type} [Fl α] [DecidableEq α] {cd:α→Nat} {p e b c q:Nat} {blk:AB} {H:AH}
theorem pivs_get {A:List (List α)} {i:Nat} (hi:i<A.length):(A.map lpiv).getD i 0=lpiv (A.getD i []):=by
  simp [List.getD_eq_getElem?_getD,List.getElem?_eq_getElem hi]
theorem LRed.redTo {n:Nat} {A:List (List α)} (h:LRed n A):RedTo n n A (A.map lpiv):=by
  have hr:=h.red
  have hp:=h.piv
  have e:∀ i,i<A.length→(A.map lpiv).getD i 0=lpiv (A.getD i []):=fun i hi=>pivs_get hi
  refine⟨by simp,h.len,fun i hi=>?_,fun i j hij hj=>?_,fun i hi=>?_,fun i k hi hk hne=>?_,fun i j hi hj=>?_,fun k j h1 h2=>by simp at h1;omega⟩
  · have hi':i<A.length:=by simpa using hi
    rw [e i hi'];exact hp.2 _ (getD_mem hi')
  · have hj':j<A.length:=by simpa using hj
    rw [e i (by omega),e j hj'];exact hr.inc i j hij hj'
  · have hi':i<A.length:=by simpa using hi
    rw [e i hi'];exact hr.one i hi'
  · have hi':i<A.length:=by simpa using hi
    rw [e i hi'];exact hr.alone i k hi' hk (Ne.symm hne)
  · have hi':i<A.length:=by simpa using hi
    rw [e i hi'] at hj;exact hr.lead i j hi' hj
theorem zeros_ev (F:FOK α cd p e b c q blk) (n:Nat):(List.replicate n 0).map nv=evs cd (List.replicate n (Fl.zero:α)):=by simp [evs,F.zero]
def freeK (P:List Nat) (k:Nat):List Nat:=(List.range k).filter fun c=>decide (c∉P)
theorem freeK_succ (P:List Nat) (k:Nat):freeK P (k+1)=freeK P k++if k∈P then [] else [k]:=by
  unfold freeK
  rw [List.range_succ,List.filter_append]
  by_cases h:k∈P<;>simp [h]
theorem codv_fill {q n:Nat} {w:Value} (h:isSl w=true):qbr [nv 0,nv 0,.slice none 0 0] [(0,1),(1,1),(2,1)] [nv q,nv n,w]=some [nv q,nv n,w]:=by
  cases w<;>simp [isSl] at h
  rfl
end
end Go.Sim

namespace Go.Sim
open Go Go.Proofs
section
variable {α:Type} [Fl α] [DecidableEq α] {cd:α→Nat} {p e b c q:Nat} {blk:AB} {H:AH}
theorem pick_dbl {n:Nat} {xs:List α} (hl:xs.length=n):pick (n+n) (fun j=>if j<n then j else j-n) xs=xs++xs:=by
  refine List.ext_getElem (by simp [qck,hl]) fun j h1 h2=>?_
  rw [qck] at h1
  by_cases hj:j<n
  · rw [List.getElem_append_left (by omega)]
    simp [pick,hj,List.getD_eq_getElem?_getD,List.getElem?_eq_getElem (show j<xs.length by omega)]
  · rw [List.getElem_append_right (by omega)]
    simp [pick,hj,List.getD_eq_getElem?_getD,hl,List.getElem?_eq_getElem (show j-n<xs.length by omega)]
theorem dbl1_c {v:Value} {n:Nat} {xs:List α} (hv:Row H v (evs cd xs)) (hl:xs.length=n) (hn:n≤1000) (hn0:0<n) :
    FN Tryz.prog 125 [v] H (fun r H'=>Pre H H'∧Row H' r (evs cd (pick (n+n) (fun j=>if j<n then j else j-n) xs))):=by
  refine g125_of ?_
  unfold g125
  simp (disch:=(first|omega|(simp only [qbj]<;>omega)|(simp only [qbg];done)|rfl)) only [zA,zB,zC,zD,zF,zG,zH,Nat.reduceEqDiff,Nat.reduceLT,Nat.reduceLeDiff,↓reduceIte,hv.fill]
  have hp:=Pre.new H [.cells [v,v] 31 none false]
  have hcl:(evs cd xs).length=n:=by rw [List.length_map,hl]
  refine FZ.mono (cat2_c (xs:=evs cd xs) (ys:=evs cd xs) (bl:=H.length) (e:=31) (op:=none) (by simp) (qht (hv.pre hp) hl hn0) (qht (hv.pre hp) hl hn0) (qh2 _) (qh2 _) (by omega)) ?_
  rintro r H3 ⟨hp3,hr⟩
  have h3:=hr.row
  rw [←List.map_append,←pick_dbl hl] at h3
  exact⟨hp.trans hp3,h3⟩
theorem dbl2_c (F:FOK α cd p e b c q blk) {v x0 x2:Value} {bb n m:Nat} {et:TypeId} {op:Option Nat} {ro:Bool} {xs:List α} (hbb:H[bb]? = some (.cells [x0,nv n,x2] et op ro)) (hv:Row H v (evs cd xs)) (hl:xs.length=m) (hn:n≤1000) (hm:m≤1000) (hm0:0<m) :
    FN Tryz.prog 126 [v,.pointer (some ⟨bb,0,none⟩)] H (fun r H'=>Pre H H'∧Row H' r (evs cd (pick (n+m) (fun j=>if j<n then m else j-n) xs))):=by
  refine g126_of ?_
  unfold g126
  have hmk:8*n≤281474976710656:=by omega
  simp (disch:=(first|omega|(simp only [qbj]<;>omega)|(simp only [qbg];done)|rfl)) only [zA,zB,zC,zD,zF,zG,zH,Nat.reduceEqDiff,Nat.reduceLT,Nat.reduceLeDiff,↓reduceIte,hbb,hmk,qc8,hv.fill]
  have hp:=Pre.new H [.cells ((List.replicate n 0).map nv) 3 none false,.cells [.slice (some ⟨H.length,0,none⟩) n n,v] 31 none false]
  have hz0:(H++[.cells ((List.replicate n 0).map nv) 3 none false,.cells [.slice (some ⟨H.length,0,none⟩) n n,v] 31 none false])[H.length]? = some (.cells ((List.replicate n 0).map nv) 3 none false):=by simp
  have hz1:(H++[.cells ((List.replicate n 0).map nv) 3 none false,.cells [.slice (some ⟨H.length,0,none⟩) n n,v] 31 none false])[H.length+1]? = some (.cells [.slice (some ⟨H.length,0,none⟩) n n,v] 31 none false):=by simp
  have hcl:(evs cd xs).length=m:=by rw [List.length_map,hl]
  refine FZ.mono (cat2_c (xs:=(List.replicate n 0).map nv) (ys:=evs cd xs) hz1 (qjf hz0) (qht (hv.pre hp) hl hm0) (by simp [one]) (qh2 _) (by simp;omega)) ?_
  rintro r H3 ⟨hp3,hr⟩
  have h3:=hr.row
  rw [qf4 F,←List.map_append,←qjg hl] at h3
  exact⟨hp.trans hp3,h3⟩
theorem mdouble_c (Q:FQ α cd p e q blk) {v w:Value} {n:Nat} {A B:List (List α)} (hv:RowR H v (evr cd A)) (hw:RowR H w (evr cd B)) (hA:∀ x∈A,x.length=n) (hB:∀ x∈B,x.length=n) (hlA:A.length≤200) (hlB:B.length≤200) (hn0:0<n) (hnm:n+n≤24) :
    FN Tryz.prog 72 [codv q n v,codv q n w] H (RetC cd q (n+n) (qbk (ldbl n A B)) H):=by
  refine g72_of ?_
  unfold g72
  have ho:=hv.one'
  have ho2:=hw.one'
  have hnm':¬24<2*n:=by omega
  simp (disch:=omega) only [zA,zB,zC,zD,zF,zG,zH,↓reduceIte,hnm',qjt]
  have hX:=Pre.new H [.cells [nv q,nv n,v] 29 none false,.cells [nv q,nv n,w] 29 none false,.cells [nv 0,nv 0,.slice none 0 0] 29 none false]
  have g0:(H++[.cells [nv q,nv n,v] 29 none false,.cells [nv q,nv n,w] 29 none false,.cells [nv 0,nv 0,.slice none 0 0] 29 none false])[H.length]? = some (.cells [nv q,nv n,v] 29 none false):=by simp
  have g1:(H++[.cells [nv q,nv n,v] 29 none false,.cells [nv q,nv n,w] 29 none false,.cells [nv 0,nv 0,.slice none 0 0] 29 none false])[H.length+1]? = some (.cells [nv q,nv n,w] 29 none false):=by simp
  have g2:(H++[.cells [nv q,nv n,v] 29 none false,.cells [nv q,nv n,w] 29 none false,.cells [nv 0,nv 0,.slice none 0 0] 29 none false])[H.length+2]? = some (.cells [nv 0,nv 0,.slice none 0 0] 29 none false):=by simp
  refine FZ.mono (qjz (T:=pick (n+n) fun j=>if j<n then j else j-n) (hv.pre hX) (by omega) (fun x hx w H1 hp hw=>?_)) ?_
  · exact dbl1_c hw (hA x hx) (by omega) hn0
  rintro r8 H8 ⟨hp8,hr8⟩
  have c0:=hp8.get g0
  have c1:=hp8.get g1
  simp (disch:=omega) only [zA,zB,zC,zD,zF,zG,zH,↓reduceIte,c1,qjt]
  refine FZ.mono (qjz (T:=pick (n+n) fun j=>if j<n then n else j-n) (hw.pre (hX.trans hp8)) (by omega) (fun x hx w H1 hp hw=>?_)) ?_
  · exact dbl2_c (Q.ok 0) (hp.get c0) hw (hB x hx) (by omega) (by omega) hn0
  rintro r9 H9 ⟨hp9,hr9⟩
  have d0:=hp9.get c0
  have d1:=hp9.get c1
  have hr8':=hr8.pre hp9
  have f8:=hr8'.fill
  have f9:=hr9.fill
  simp (disch:=(first|omega|(simp only [qbj]<;>omega)|(simp only [qbg];done)|rfl)) only [zA,zB,zC,zD,zF,zG,zH,Nat.reduceEqDiff,Nat.reduceLT,Nat.reduceLeDiff,↓reduceIte,d0,d1,f8,f9]
  have hp10:=Pre.new H9 [.cells [r8,r9] 27 none false]
  refine FZ.mono (all2_c (et:=27) (op:=none) (bl:=H9.length) (v:=r8) (w:=r9) (by simp) (hr8'.pre hp10) (hr9.pre hp10) (by simp;omega) (by simp;omega)) ?_
  rintro r11 H11 ⟨hp11,hr11⟩
  have hp911:=hp10.trans hp11
  have e0:=hp911.get d0
  have e1:=hp911.get d1
  simp (disch:=omega) only [zA,zB,zC,zD,zF,zG,zH,↓reduceIte,e0,e1]
  rw [Nat.two_mul]
  refine FZ.mono (qhx Q hr11 (ldbl_len (n:=n) A B) (by simp;omega) (by omega) (by omega)) ?_
  rintro _ H12 ⟨hp12,w12,rfl,hw12⟩
  have hpall:=hp8.trans (hp9.trans (hp911.trans hp12))
  have hc:=hpall.get g2
  have s9:=qbs (H:=H12) (bl:=H.length+2) (x:=nv q) (y:=nv (n+n)) (z:=w12) (c0:=nv 0) (c1:=nv 0) (c2:=.slice none 0 0) (e:=29) (op:=none) rfl rfl hw12.one
  have g9:(H12.set (H.length+2) (.cells [nv q,nv (n+n),w12] 29 none false))[H.length+2]? = some (.cells [nv q,nv (n+n),w12] 29 none false):=List.getElem?_set_self (qbx hc)
  simp (disch:=omega) only [zA,zB,zC,zD,zF,zG,zH,↓reduceIte,hc,s9,g9]
  have hl11:=(hp8.trans (hp9.trans hp911)).len
  simp only [List.length_append,List.length_cons,List.length_nil] at hl11
  exact⟨(hX.trans hpall).set (by omega) _,w12,rfl,(hw12.setLow (by omega)).mono (by omega)⟩
theorem doubled_c (Q:FQ α cd p e q blk) {v w:Value} {n:Nat} {A B:List (List α)} (hv:RowR H v (evr cd A)) (hw:RowR H w (evr cd B)) (hA:∀ x∈A,x.length=n) (hB:∀ x∈B,x.length=n) (hlA:A.length≤200) (hlB:B.length≤200) (hn0:0<n) (hnm:n+n≤24) :
    FN Tryz.prog 24 [codv q n v,codv q n w] H (RetG cd q (n+n) (qbk (ldbl n A B)) H):=by
  refine g24_of ?_
  unfold g24
  have ho:=hv.one'
  have ho2:=hw.one'
  simp (disch:=omega) only [zA,zB,zC,zD,zF,zG,zH,↓reduceIte,ho2]
  have hX:=Pre.new H [.cells [nv q,nv n,v] 29 none false,.cells [nv q,nv n,w] 29 none false,.cells [nv 0,nv 0,.slice none 0 0,nv 0] 37 none false]
  refine FZ.mono (mdouble_c Q (hv.pre hX) (hw.pre hX) hA hB hlA hlB hn0 hnm) ?_
  rintro _ H3 ⟨hp3,w9,rfl,hw9⟩
  have s4:=qbs (H:=H3++[.cells [nv 0,nv 0,.slice none 0 0] 29 none false]) (bl:=H3.length) (x:=nv q) (y:=nv (n+n)) (z:=w9) (c0:=nv 0) (c1:=nv 0) (c2:=.slice none 0 0) (e:=29) (op:=none) rfl rfl hw9.one
  rw [qb2] at s4
  have hb3:H3[H.length+2]? = some (.cells [nv 0,nv 0,.slice none 0 0,nv 0] 37 none false):=hp3.get (by simp)
  have hb4:=qdr hb3 [.cells [nv q,nv (n+n),w9] 29 none false]
  have s6:=qcj (H:=H3++[.cells [nv q,nv (n+n),w9] 29 none false]) (bl:=H.length+2) (x:=nv q) (y:=nv (n+n)) (z:=w9) (u:=nv 0) (c0:=nv 0) (c1:=nv 0) (c2:=.slice none 0 0) (c3:=nv 0) (e:=37) (op:=none) rfl rfl hw9.one rfl
  have g6:((H3++[AB.cells [nv q,nv (n+n),w9] 29 none false]).set (H.length+2) (AB.cells [nv q,nv (n+n),w9,nv 0] 37 none false))[H.length+2]? = some (.cells [nv q,nv (n+n),w9,nv 0] 37 none false):=List.getElem?_set_self (qbx hb4)
  have f4:=qb7 (q:=q) (n:=n+n) (er:=0) hw9.isSl
  simp (disch:=omega) only [zA,zB,zC,zD,zF,zG,zH,↓reduceIte,s4,hb4,f4,s6,g6]
  refine⟨((hX.trans hp3).app _).set (by omega) _,w9,rfl,?_⟩
  exact ((hw9.pre (Pre.new H3 _)).setLow (by simp)).mono (by simp)
theorem ones_c {n:Nat} (hn:n≤1000):FN Tryz.prog 49 [nv n] H (fun r H'=>Pre H H'∧Row H' r ((List.replicate n 1).map nv)):=by
  refine g49_of ?_
  unfold g49
  simp (disch:=omega) only [zA,zB,zC,zD,zF,zG,zH,↓reduceIte]
  refine loopV2.nat n (fun k out i H'=>i=nv k∧Pre H H'∧Acc H H' out ((List.replicate k 1).map nv) 3) ⟨rfl,Pre.new _ _,by have:=Own.new (H0:=H) (H:=H) (Nat.le_refl _) (cs:=[]) (e:=3) rfl (Y:=[]);simpa using this.acc⟩ ?_ ?_
  · rintro k out i H2 hk ⟨rfl,hp,ho⟩ J hJ
    obtain⟨out',H5,e1,ho',hp',_⟩:=ho.app1 (by_:=8) hp.len (u:=nv 1) rfl (by simp;omega) (by simp;omega) (e2:=3)
    have f1:qbr [nv 0] [(0,1)] [nv 1]=some [nv 1]:=rfl
    simp (disch:=omega) only [zA,zB,zC,zD,zF,zG,zH,↓reduceIte,hk,f1,e1]
    refine hJ _ _ _ ⟨rfl,hp' hp,?_⟩
    rw [List.replicate_succ',List.map_append]
    exact ho'
  · rintro out i H2 ⟨rfl,hp,ho⟩ J
    simp (disch:=omega) only [zA,zB,zC,zD,zF,zG,zH,↓reduceIte]
    exact⟨hp,ho.row⟩
theorem rpivot_c (F:FOK α cd p e b c q blk) {v:Value} {x:List α} (hv:Row H v (evs cd x)) (hx:lpiv x<x.length) (hl:x.length≤1000) :
    FN Tryz.prog 80 [v] H (fun r H'=>r=nv (lpiv x)∧H'=H):=by
  refine g80_of ?_
  unfold g80
  obtain⟨_,vi,vd,_⟩:=hv.all Fl.zero
  refine loopV1.ind (fun m i H'=>∃ k,i=nv k∧H'=H∧k+m=lpiv x) (lpiv x) ⟨0,rfl,rfl,by omega⟩ ?_
  rintro m i _ ⟨k,rfl,rfl,hm⟩ J hJ
  have hkx:k<x.length:=by omega
  by_cases hk:k<lpiv x
  · have h0:cd (x.getD k Fl.zero)=0:=by rw [qcv x k hk];exact F.zero
    simp (disch:=omega) only [zA,zB,zC,zD,zF,zG,zH,↓reduceIte,vi,vd,hkx,h0]
    exact hJ _ _ ⟨m-1,by omega,k+1,rfl,rfl,by omega⟩
  · have hk':k=lpiv x:=by omega
    have h0:¬cd (x.getD k Fl.zero)=0:=fun h=>qm4 x hx (by rw [←hk'];exact (F.eq0 _).1 h)
    simp (disch:=omega) only [zA,zB,zC,zD,zF,zG,zH,↓reduceIte,vi,vd,hkx,h0]
    rw [hk']
end
end Go.Sim
