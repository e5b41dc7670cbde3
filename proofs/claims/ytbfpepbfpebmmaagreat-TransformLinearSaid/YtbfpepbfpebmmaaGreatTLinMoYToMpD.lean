/- Part of the proof: MoY, ZSpX1, ZSpX2, ZSpX3, ZSpX5, MoW, MoZ, MpA, MpD. -/
import Derived.Test.YtbfpepbfpebmmaaGreatTLinShSToXfS
import Derived.Test.YtbfpepbfpebmmaaGreatTLinZShMixToZPfFieldI
import Derived.KernelRfl
import Derived.Test.YtbfpepbfpebmmaaGreatTLinMoAToZTlA
import Derived.Test.YtbfpepbfpebmmaaGreatTLinSimSTToShC
import Derived.Test.YtbfpepbfpebmmaaGreatTLinZSpAToZSpU
set_option linter.all false
namespace Go.Sim
open Go Go.Proofs
theorem xp_slSlo {b l c k:Nat} (h:k<l) (hc:l≤c):qbc (.slS 1 true false) [.slice (some ⟨b,0,none⟩) l c,nv k]=some (.slice (some ⟨b,k,none⟩) (l-k) (c-k)):=by
  simp only [qbc,bnds,Option.getD_some,Option.getD_none]
  rw [if_pos ⟨trivial,by omega,by omega,by omega⟩]
  by_cases h0:k=0
  · subst h0;simp
  · rw [if_neg (by omega),if_pos (by omega)]
    simp
theorem Row.drop {H:AH} {b l c k:Nat} {vs:List Value} {e:TypeId} {op:Option Nat} {r:Bool} (h:H[b]? = some (.cells vs e op r)) (hl:l=vs.length) (hk:k≤l) (hc:l≤c):Row H (.slice (some ⟨b,k,none⟩) (l-k) (c-k)) (vs.drop k):=
  .inr ⟨b,k,c-k,vs,e,op,r,by rw [List.length_drop,hl],h,fun j _=>by rw [List.getElem?_drop],by rw [List.length_drop];omega⟩
theorem indexP_c {H:AH} {v:Value} {vs:List Value} {F:Nat} {cap:Array Value} {P:Nat→Bool} (hv:Row H v vs) (hl:vs.length≤1000) (hF:∀ k,k<vs.length→FN Tryz.prog F (vs.getD k undef :: cap.toList) H (fun r H'=>r=.bool (P k)∧H'=H)) :
    FN Tryz.prog 140 [v,.func (.func F) #[] cap] H (fun r H'=>((r=.int .i64 (-1)∧∀ k,k<vs.length→P k=false)∨∃ k,r=nv k∧k<vs.length∧P k=true∧∀ j,j<k→P j=false)∧H'=H):=by
  refine g140_of ?_
  unfold g140
  obtain⟨vl,vi,vd,_⟩:=hv.allV
  simp (disch:=omega) only [zA,zB,zC,zD,zF,zG,zH,↓reduceIte,vl]
  refine loopV1.nat vs.length (fun k i H'=>i=nv k∧H'=H∧∀ j,j<k→P j=false) ⟨rfl,rfl,fun j h=>absurd h (Nat.not_lt_zero _)⟩ ?_ ?_
  · rintro k i H hk ⟨rfl,rfl,hin⟩ J hJ
    simp (disch:=omega) only [zA,zB,zC,zD,zF,zG,zH,↓reduceIte,vi,vd,hk]
    refine FZ.use (hF k hk) ?_
    cases h:P k with
    | false =>
      simp (disch:=omega) only [zA,zB,zC,zD,zF,zG,zH,↓reduceIte]
      refine hJ _ _ ⟨rfl,rfl,fun j hj=>?_⟩
      by_cases hjk:j=k
      · rw [hjk];exact h
      · exact hin j (by omega)
    | true =>
      simp (disch:=omega) only [zA,zB,zC,zD,zF,zG,zH,↓reduceIte]
      exact .inr ⟨k,rfl,hk,h,hin⟩
  · rintro i H ⟨rfl,rfl,hin⟩ J
    simp (disch:=omega) only [zA,zB,zC,zD,zF,zG,zH,↓reduceIte]
    exact .inl hin
section
variable {α:Type} [Fl α] [DecidableEq α] {cd:α→Nat} {p e b c q:Nat} {blk:AB} {H:AH}
theorem cadd_c (F:FOK α cd p e b c q blk) {by_:Nat} {vx:Value} {ys xs:List α} {a:α} (hb:H[b]? = some blk) (hbn:b≠by_) (hy:H[by_]? = some (.cells (evs cd ys) 3 none false)) (hl:xs.length=ys.length) (hn:ys.length≤1000)
    (hx:∀ H':AH,(∀ x,x<H.length→x≠by_→H'[x]? = H[x]?)→Row H' vx (evs cd xs)) :
    FN Tryz.prog 95 [fldv p e b e c,.slice (some ⟨by_,0,none⟩) ys.length ys.length,nv (cd a),vx] H (fun _ H'=>(∀ x,x<H.length→x≠by_→H'[x]? = H[x]?)∧H'[by_]? = some (.cells (evs cd (qfq ys (xs.map (Fl.mul a)))) 3 none false)∧H.length≤H'.length):=by
  refine g95_of ?_
  unfold g95
  have hlt:=qbr hy
  have hltb:=qbr hb
  by_cases h0:a=Fl.zero
  · have h0':cd a=0:=(F.eq0 _).2 h0
    have e1:qfq ys (xs.map (Fl.mul a))=ys:=by
      subst h0
      unfold qfq
      refine List.ext_getElem (by simp [hl]) fun j h1 h2=>?_
      simp [Fl.zero_mul,Fl.add_zero]
    simp (disch:=omega) only [zA,zB,zC,zD,zF,zG,zH,↓reduceIte,h0']
    rw [e1]
    exact⟨fun x hx _=>List.getElem?_append_left hx,by rw [List.getElem?_append_left hlt];exact hy,by simp⟩
  · have h0':¬cd a=0:=fun h=>h0 ((F.eq0 _).1 h)
    simp (disch:=omega) only [zA,zB,zC,zD,zF,zG,zH,↓reduceIte,h0']
    obtain⟨Z,hZ⟩:∃ Z,Z=qfq ys (xs.map (Fl.mul a)):=⟨_,rfl⟩
    have hZl:Z.length=ys.length:=by rw [hZ];simp [qfq,hl]
    have hZg:∀ k,k<ys.length→Z.getD k Fl.zero=Fl.add (ys.getD k Fl.zero) (Fl.mul a (xs.getD k Fl.zero)):=by
      intro k hk
      rw [hZ]
      simp [qfq,List.getElem?_zipWith,List.getD_eq_getElem?_getD,List.getElem?_eq_getElem hk,List.getElem?_eq_getElem (show k<xs.length by omega)]
    rw [←hZ]
    refine loopV1.nat ys.length (fun k i H'=>i=nv k∧(∀ x,x<H.length→x≠by_→H'[x]? = H[x]?)∧H'[by_]? = some (.cells (evs cd (Z.take k++ys.drop k)) 3 none false)∧H'[H.length]? = some (.cells [nv p,nv e,.slice (some ⟨b,0,none⟩) e c] 96 none false)∧H.length≤H'.length) ?_ ?_ ?_
    · exact⟨rfl,fun x hx _=>List.getElem?_append_left hx,by rw [List.getElem?_append_left hlt];simpa using hy,by simp,by simp⟩
    · rintro k i H1 hk ⟨rfl,h1,h2,h3,h4⟩ J hJ
      have hb1:=(h1 b hltb hbn).trans hb
      have hrow:=hx H1 h1
      have hkx:k<xs.length:=by omega
      obtain⟨_,ri,rd,_⟩:=hrow.all Fl.zero
      have hCl:(Z.take k++ys.drop k).length=ys.length:=by simp;omega
      have hCk:(Z.take k++ys.drop k).getD k Fl.zero=ys.getD k Fl.zero:=qk8 Fl.zero ys Z k (by omega)
      have hpre:=qk7 Fl.zero ys Z k (by omega) (by omega)
      have l1:=ld_ev (k:=k) h2 (by omega)
      rw [hCk] at l1
      have s1:=st_ev (k:=k) (x:=Fl.add (ys.getD k Fl.zero) (Fl.mul a (xs.getD k Fl.zero))) h2 (by omega)
      rw [←hZg k hk,hpre] at s1
      simp (disch:=omega) only [zA,zB,zC,zD,zF,zG,zH,↓reduceIte,hk,h3,l1,ri,rd,hkx]
      refine FZ.use (F.mul _ _ _ hb1) ?_
      simp (disch:=omega) only [zA,zB,zC,zD,zF,zG,zH,↓reduceIte,h3,l1]
      refine FZ.use (F.add _ _ _ hb1) ?_
      rw [←hZg k hk]
      simp (disch:=omega) only [zA,zB,zC,zD,zF,zG,zH,↓reduceIte,s1]
      refine hJ _ _ ⟨rfl,fun x hx hne=>by rw [List.getElem?_set_ne (Ne.symm hne)];exact h1 x hx hne,List.getElem?_set_self (qbr h2),by rw [List.getElem?_set_ne (by omega)];exact h3,by simpa using h4⟩
    · rintro i H1 ⟨rfl,h1,h2,h3,h4⟩ J
      simp (disch:=omega) only [zA,zB,zC,zD,zF,zG,zH,↓reduceIte]
      rw [List.take_of_length_le (by omega),List.drop_of_length_le (by omega),List.append_nil] at h2
      exact⟨h1,h2,h4⟩
structure Mt (cd:α→Nat) (n sb:Nat) (bs:List Nat) (H:AH) (M:List (List α)):Prop where
  spine:∃ op,H[sb]? = some (.cells (bs.map (rsl n)) 31 op false)
  len:bs.length=M.length
  row:∀ i,i<M.length→H[bs.getD i 0]? = some (.cells (evs cd (M.getD i [])) 3 none false)
  width:∀ x∈M,x.length=n
  nd:(sb :: bs).Nodup
theorem Mt.keep {n sb:Nat} {bs:List Nat} {H H':AH} {M:List (List α)} (h:Mt cd n sb bs H M) (hk:∀ x∈sb :: bs,H'[x]? = H[x]?):Mt cd n sb bs H' M:=by
  obtain⟨op,ho⟩:=h.spine
  refine⟨⟨op,by rw [hk sb (by simp)];exact ho⟩,h.len,fun i hi=>?_,h.width,h.nd⟩
  rw [hk _ (List.mem_cons_of_mem _ (getD_mem (by rw [h.len];exact hi)))]
  exact h.row i hi
theorem Mt.lt {n sb:Nat} {bs:List Nat} {M:List (List α)} (h:Mt cd n sb bs H M):∀ x∈sb :: bs,x<H.length:=by
  intro x hx
  obtain⟨op,ho⟩:=h.spine
  simp only [List.mem_cons] at hx
  rcases hx with rfl|hx
  · exact qbr ho
  · obtain⟨k,hk,rfl⟩:=List.mem_iff_getElem.1 hx
    have:=h.row k (by rw [←h.len];exact hk)
    rw [List.getD_eq_getElem?_getD,List.getElem?_eq_getElem hk] at this
    exact qbr this
theorem Mt.setRow {n sb:Nat} {bs:List Nat} {H H':AH} {M:List (List α)} (h:Mt cd n sb bs H M) {i:Nat} (hi:i<M.length) {x:List α} (hx:x.length=n) (hk:∀ y,y<H.length→y≠bs.getD i 0→H'[y]? = H[y]?) (hn:H'[bs.getD i 0]? = some (.cells (evs cd x) 3 none false)):Mt cd n sb bs H' (M.set i x):=by
  have hlt:=h.lt
  obtain⟨op,ho⟩:=h.spine
  have hb:=getD_mem (d:=0) (show i<bs.length by rw [h.len];exact hi)
  have hnd:=h.nd
  simp only [List.nodup_cons] at hnd
  obtain⟨n3,n4⟩:=hnd
  have hs:sb≠bs.getD i 0:=fun e=>n3 (e ▸ hb)
  refine⟨⟨op,by rw [hk _ (hlt _ (by simp)) hs];exact ho⟩,by simp [h.len],fun k hk2=>?_,fun y hy=>?_,h.nd⟩
  · simp only [List.length_set] at hk2
    by_cases hki:i=k
    · subst hki
      rw [hn]
      simp [List.getD_eq_getElem?_getD,List.getElem?_set_self hi]
    · rw [hk _ (hlt _ (List.mem_cons_of_mem _ (getD_mem (by rw [h.len];exact hk2)))) (qgh n4 (by rw [h.len];exact hk2) (by rw [h.len];exact hi) (Ne.symm hki)),h.row k hk2]
      simp [List.getD_eq_getElem?_getD,List.getElem?_set_ne hki]
  · rcases List.mem_or_eq_of_mem_set hy with hy|rfl
    · exact h.width _ hy
    · exact hx
theorem Mt.swap {n sb:Nat} {bs:List Nat} {M:List (List α)} (h:Mt cd n sb bs H M) {i r:Nat} (hi:i<M.length) (hr:r<M.length) {op:Option Nat} :
    Mt cd n sb (qfv 0 bs i r) (H.set sb (.cells ((qfv 0 bs i r).map (rsl n)) 31 op false)) (qfv [] M i r):=by
  have hl:=h.len
  obtain⟨op0,ho⟩:=h.spine
  have hnd:=h.nd
  simp only [List.nodup_cons] at hnd
  obtain⟨n3,n4⟩:=hnd
  have hm:∀ {x},x∈qfv 0 bs i r→x∈bs:=fun hx=>qq5 (by omega) (by omega) hx
  refine⟨⟨op,List.getElem?_set_self (qbr ho)⟩,by rw [qdj,qdj,hl],fun k hk=>?_,fun x hx=>h.width _ (qq5 hi hr hx),?_⟩
  · rw [qdj] at hk
    have hne:sb≠(qfv 0 bs i r).getD k 0:=fun e=>n3 (e ▸ hm (getD_mem (by rw [qdj];omega)))
    rw [List.getElem?_set_ne hne,qgk (by omega) (by omega),qgk hi hr]
    split
    · exact h.row i hi
    · split
      · exact h.row r hr
      · exact h.row k hk
  · simp only [List.nodup_cons]
    exact⟨fun hx=>n3 (hm hx),lswap_nodup n4 (by omega) (by omega)⟩
def CRed (cd:α→Nat) (n sb:Nat) (bs:List Nat) (M:List (List α)) (C:Nat) (H H':AH) (r:Value):Prop:=
  ∃ k bs' M',r=.slice (some ⟨sb,0,none⟩) k C∧Mt cd n sb bs' H' M'∧k≤M'.length∧M'.take k=qb4 M∧(∀ x,x<H.length→x∉sb :: bs→H'[x]? = H[x]?)∧(∀ x∈bs',x∈bs)∧H.length≤H'.length
theorem creduce_c (F:FOK α cd p e b c q blk) {n sb L C:Nat} {bs:List Nat} {M:List (List α)} (hb:H[b]? = some blk) (hbn:b∉sb :: bs) (h:Mt cd n sb bs H M) (hM:M.length≤1000) (hn:n≤1000) (hL:L=M.length) (hC:L≤C) :
    FN Tryz.prog 85 [fldv p e b e c,nv n,.slice (some ⟨sb,0,none⟩) L C] H (fun r H'=>CRed cd n sb bs M C H H' r):=by
  refine g85_of ?_
  unfold g85
  have mlt:=h.lt
  have hltb:=qbr hb
  have s0:=qfm (c:=[nv 0]) (e:=3) (op:=none) (H:=H++[.cells [nv p,nv e,.slice (some ⟨b,0,none⟩) e c] 96 none false,.cells [nv 0] 3 none false]) (bl:=H.length+1) (o:=0) (v:=nv 0) rfl rfl (by simp)
  have e0:(H++[AB.cells [nv p,nv e,.slice (some ⟨b,0,none⟩) e c] 96 none false,AB.cells [nv 0] 3 none false]).set (H.length+1) (AB.cells ([nv 0].set 0 (nv 0)) 3 none false)=H++[AB.cells [nv p,nv e,.slice (some ⟨b,0,none⟩) e c] 96 none false,AB.cells [nv 0] 3 none false]:=by
    rw [List.set_append_right _ _ (by omega)];simp
  rw [e0] at s0
  simp (disch:=omega) only [zA,zB,zC,zD,zF,zG,zH,↓reduceIte,s0]
  have hLM:∀ {X:List (List α)},X.length=M.length→X.length=L:=fun hx=>by rw [hx,hL]
  refine loopV2.ind (fun m r c8 H'=>∃ col cb bs1 M1 P,col+m=n∧c8=.pointer (some ⟨cb,0,none⟩)∧H.length<cb∧H'[cb]? = some (.cells [nv col] 3 none false)∧r=nv P.length∧H'[H.length]? = some (.cells [nv p,nv e,.slice (some ⟨b,0,none⟩) e c] 96 none false)∧Mt cd n sb bs1 H' M1∧RedTo n col M1 P∧M1.length=M.length∧(∀ u,LSpan M1 u↔LSpan M u)∧(∀ x,x<H.length→x∉sb :: bs→H'[x]? = H[x]?)∧(∀ x∈bs1,x∈bs)∧H.length<H'.length) n
    ⟨0,H.length+1,bs,M,[],by omega,rfl,by omega,by simp,rfl,by simp,h.keep fun x hx=>List.getElem?_append_left (mlt x hx),RedTo.start h.width,rfl,fun _=>Iff.rfl,fun x hx _=>List.getElem?_append_left hx,fun _ hx=>hx,by simp⟩ ?_
  rintro m r c8 H4 ⟨col,cb,bs1,M1,P,hcm,rfl,hcb,hc4,rfl,ho4,hm1,hr1,hl1,hs1,hfr,hsub,hlen⟩ J hJ
  have hPl:=hr1.len
  have hbl:=hm1.len
  have hdone:∀ (hfull:RedTo n n M1 P),CRed cd n sb bs M C H H4 (.slice (some ⟨sb,0,none⟩) P.length C):=by
    intro hfull
    obtain⟨d1,d2⟩:=hfull.done
    refine⟨P.length,bs1,M1,rfl,hm1,by omega,?_,hfr,hsub,by omega⟩
    obtain⟨h1,h2,_⟩:=qcb h.width
    exact d1.unique h1 fun u=>(d2 u).trans ((hs1 u).trans (h2 u).symm)
  by_cases hcn:col<n
  · by_cases hPr:P.length<L
    · simp (disch := omega) only [zA,zB,zC,zD,zF,zG,zH,↓reduceIte,hc4,hcn,hPr]
      obtain⟨op,ho⟩:=hm1.spine
      have sl1:=xp_slSlo (b:=sb) hPr hC
      have hLb:L=(bs1.map (rsl n)).length:=by rw [List.length_map];omega
      refine joinV1.via (fun r' H'=>∃ bs' M' P',r'=nv P'.length∧H'[cb]? = some (.cells [nv col] 3 none false)∧H'[H.length]? = some (.cells [nv p,nv e,.slice (some ⟨b,0,none⟩) e c] 96 none false)∧Mt cd n sb bs' H' M'∧RedTo n (col+1) M' P'∧M'.length=M.length∧(∀ u,LSpan M' u↔LSpan M u)∧(∀ x,x<H.length→x∉sb :: bs→H'[x]? = H[x]?)∧(∀ x∈bs',x∈bs)∧H.length<H'.length) ?_ ?_
      · intro J2 hJ2
        simp (disch:=omega) only [zA,zB,zC,zD,zF,zG,zH,↓reduceIte,sl1,xp_fn1]
        refine FZ.mono (indexP_c (P:=fun k=>decide (ent M1 (P.length+k) col≠Fl.zero)) (Row.drop ho hLb (by omega) hC) (by simp;omega) fun k hk=>?_) ?_
        · have hk':P.length+k<bs1.length:=by simp at hk;omega
          have e1:((bs1.map (rsl n)).drop P.length).getD k undef=rsl n (bs1.getD (P.length+k) 0):=by
            simp [List.getD_eq_getElem?_getD,List.getElem?_drop,List.getElem?_eq_getElem hk']
          rw [e1]
          refine g141_of ?_
          unfold g141
          have hrow:=hm1.row (P.length+k) (by omega)
          have hcw:col<(M1.getD (P.length+k) []).length:=by rw [qcd hm1.width (by omega)];omega
          have l2:=ld_ev hrow hcw
          by_cases he:ent M1 (P.length+k) col=Fl.zero
          · have he0:cd ((M1.getD (P.length+k) []).getD col Fl.zero)=0:=(F.eq0 _).2 he
            simp (disch:=omega) only [zA,zB,zC,zD,zF,zG,zH,↓reduceIte,hc4,l2,hcn,he0]
            rw [decide_eq_false (fun h=>h he)]
          · have he0:¬cd ((M1.getD (P.length+k) []).getD col Fl.zero)=0:=fun hh=>he ((F.eq0 _).1 hh)
            simp (disch:=omega) only [zA,zB,zC,zD,zF,zG,zH,↓reduceIte,hc4,l2,hcn,he0]
            rw [decide_eq_true he]
        rintro _ H4 ⟨⟨rfl,hno⟩|⟨k,rfl,hk,hk1,hk2⟩,rfl⟩
        · have e1:xbin .lss 0 (.int .i64 (-1)) (nv 0)=some (.bool true):=by rw [qj2,decide_eq_true];omega
          simp (disch:=omega) only [zA,zB,zC,zD,zF,zG,zH,↓reduceIte,e1]
          refine hJ2 _ _ ⟨bs1,M1,P,rfl,hc4,ho4,hm1,hr1.skip fun k h1 h2=>?_,hl1,hs1,hfr,hsub,hlen⟩
          have:=hno (k-P.length) (by simp;omega)
          rw [Nat.add_sub_cancel' h1] at this
          exact Classical.byContradiction fun hne=>by simp [hne] at this
        · have hi1:P.length≤P.length+k:=by omega
          obtain⟨i,hi⟩:∃ i,i=P.length+k:=⟨_,rfl⟩
          rw [←hi] at hi1
          have him:i<M1.length:=by simp at hk;omega
          have hk1':ent M1 i col≠Fl.zero:=by rw [hi];simpa using hk1
          have hib:i<bs1.length:=by omega
          have hrm:P.length<M1.length:=by omega
          have hrb:P.length<bs1.length:=by omega
          have hiL:i<L:=by omega
          have l1:=ld_sp ho hib
          have l3:=ld_sp ho hrb
          have hst:=hr1.step him hi1 hk1'
          have hsp:=qqd (n:=n) hm1.width hrm him hk1'
          have s1:=st_sp (x:=bs1.getD i 0) ho hrb
          have hsb:=qbr ho
          have ho2:(H4.set sb (.cells ((bs1.set P.length (bs1.getD i 0)).map (rsl n)) 31 op false))[sb]? = some (.cells ((bs1.set P.length (bs1.getD i 0)).map (rsl n)) 31 op false):=List.getElem?_set_self hsb
          have s2:=st_sp (x:=bs1.getD P.length 0) ho2 (k:=i) (by simpa using hib)
          rw [List.set_set] at s2
          have hsw:(bs1.set P.length (bs1.getD i 0)).set i (bs1.getD P.length 0)=qfv 0 bs1 i P.length:=by
            refine List.ext_getElem (by simp [qfv]) fun j h1 h2=>?_
            unfold qfv
            by_cases e1:i=j
            · by_cases e2:P.length=j
              · subst e2;subst e1;simp
              · subst e1;simp [List.getElem_set_ne e2]
            · by_cases e2:P.length=j
              · subst e2;simp [List.getElem_set_ne e1]
              · simp [List.getElem_set_ne e1,List.getElem_set_ne e2]
          rw [hsw] at s2
          have hm2:=hm1.swap him hrm (op:=op)
          have hfr2:∀ x,x≠sb→(H4.set sb (.cells ((qfv 0 bs1 i P.length).map (rsl n)) 31 op false))[x]? = H4[x]?:=fun x hx=>List.getElem?_set_ne (Ne.symm hx)
          have hH2l:(H4.set sb (.cells ((qfv 0 bs1 i P.length).map (rsl n)) 31 op false)).length=H4.length:=by simp
          have hsub2:∀ x∈qfv 0 bs1 i P.length,x∈bs:=fun x hx=>hsub x (qq5 hib hrb hx)
          have hM2g:∀ k,(qfv [] M1 i P.length).getD k []=if k=P.length then M1.getD i [] else if k=i then M1.getD P.length [] else M1.getD k []:=fun k=>qgk him hrm
          have hfront:(qfv [] M1 i P.length).set P.length ((M1.getD i []).map (Fl.mul (Fl.inv (ent M1 i col))))=qc9 P.length i col M1:=rfl
          have hM2l:(qfv [] M1 i P.length).length=M1.length:=qdj
          have e1:xbin .lss 0 (nv k) (nv 0)=some (.bool false):=by rw [show nv k=.int .i64 (k:Int) from rfl,qj2,decide_eq_false];omega
          have e2:xbin .add 0 (nv P.length) (nv k)=some (nv i):=by rw [qj3 (by simp at hk;omega),hi]
          have hsbH:=mlt sb (by simp)
          simp (disch:=omega) only [zA,zB,zC,zD,zF,zG,zH,↓reduceIte,e1,e2,hiL,hPr,l1,l3,s1,s2]
          obtain⟨bs2,hbs2⟩:∃ x,x=qfv 0 bs1 i P.length:=⟨_,rfl⟩
          obtain⟨M2,hM2⟩:∃ x,x=qfv [] M1 i P.length:=⟨_,rfl⟩
          rw [←hbs2] at hm2 hfr2 hH2l hsub2 ⊢
          rw [←hM2] at hm2 hM2g hfront hM2l
          obtain⟨H2,hH2⟩:∃ x,x=H4.set sb (.cells (bs2.map (rsl n)) 31 op false):=⟨_,rfl⟩
          rw [←hH2] at hm2 hfr2 hH2l ⊢
          have hcbs:cb≠sb:=by omega
          have hc2:=(hfr2 cb hcbs).trans hc4
          have hob2:=(hfr2 H.length (by omega)).trans ho4
          obtain⟨op2,ho2'⟩:=hm2.spine
          have hbl2:=hm2.len
          have hrb2:P.length<bs2.length:=by omega
          have l4:=ld_sp ho2' hrb2
          have hrow2:=hm2.row P.length (by omega)
          rw [hM2g,if_pos rfl] at hrow2
          have hxl:(M1.getD i []).length=n:=qcd hm1.width him
          have hcw:col<(M1.getD i []).length:=by omega
          have l5:=ld_ev hrow2 hcw
          have hbn':=hbn
          simp only [List.mem_cons,not_or] at hbn'
          have hb2:H2[b]? = some blk:=by
            rw [hfr2 b hbn'.1,hfr b hltb hbn];exact hb
          simp (disch:=omega) only [zA,zB,zC,zD,zF,zG,zH,↓reduceIte,hob2,hPr,l4,hc2,l5,hcn]
          refine FZ.use (F.inv _ _ hb2 hk1') ?_
          simp (disch:=omega) only [zA,zB,zC,zD,zF,zG,zH,↓reduceIte,hob2,hPr,l4,hc2,l5,hcn]
          obtain⟨N0,hN0⟩:∃ x,x=(M1.getD i []).map (Fl.mul (Fl.inv (ent M1 i col))):=⟨_,rfl⟩
          have hN0l:N0.length=n:=by rw [hN0,List.length_map];exact hxl
          have hN0g:∀ j,j<n→N0.getD j Fl.zero=Fl.mul (Fl.inv (ent M1 i col)) ((M1.getD i []).getD j Fl.zero):=fun j hj=>by
            have hjx:j<(M1.getD i []).length:=by omega
            rw [hN0]
            generalize M1.getD i []=X at hjx ⊢
            simp [List.getD_eq_getElem?_getD,List.getElem?_eq_getElem hjx]
          have hbi2:=getD_mem (d:=0) hrb2
          obtain⟨bi,hbi⟩:∃ x,x=bs2.getD P.length 0:=⟨_,rfl⟩
          rw [←hbi] at hrow2 l4 l5 hbi2
          have hlt2:=hm2.lt
          have hnd2:=hm2.nd
          simp only [List.nodup_cons] at hnd2
          have hbis:bi≠sb:=fun h=>hnd2.1 (h ▸ hbi2)
          have hbiH:bi<H.length:=mlt bi (List.mem_cons_of_mem _ (hsub2 _ hbi2))
          have hbbi:b≠bi:=fun h=>hbn'.2 (hsub2 _ (h ▸ hbi2))
          refine loopV1.nat n (fun j v H'=>v=nv j∧(∀ x,x<H2.length→x≠bi→H'[x]? = H2[x]?)∧H'.length=H2.length∧H'[bi]? = some (.cells (evs cd (N0.take j++(M1.getD i []).drop j)) 3 none false)) ⟨rfl,fun _ _ _=>rfl,rfl,by simpa using hrow2⟩ ?_ ?_
          · rintro j v H5 hj ⟨rfl,q1,q2,q3⟩ J3 hJ3
            have hCl:(N0.take j++(M1.getD i []).drop j).length=n:=by rw [List.length_append,List.length_take,List.length_drop];omega
            have hCj:(N0.take j++(M1.getD i []).drop j).getD j Fl.zero=(M1.getD i []).getD j Fl.zero:=qk8 Fl.zero _ N0 j (by omega)
            have hpre:=qk7 Fl.zero (M1.getD i []) N0 j (by omega) (by omega)
            have a1:=ld_ev (k:=j) q3 (by omega)
            rw [hCj] at a1
            have a2:=st_ev (k:=j) (x:=N0.getD j Fl.zero) q3 (by omega)
            rw [hpre] at a2
            rw [hN0g j hj] at a2
            unfold ent at a2
            have hob5:=(q1 H.length (by omega) (by omega)).trans hob2
            have ho5:=(q1 sb (by omega) (Ne.symm hbis)).trans ho2'
            have a3:=ld_sp ho5 hrb2
            rw [←hbi] at a3
            have hb5:=(q1 b (by omega) hbbi).trans hb2
            simp (disch:=omega) only [zA,zB,zC,zD,zF,zG,zH,↓reduceIte,hj,hPr,a3,hob5,a1]
            refine FZ.use (F.mul _ _ _ hb5) ?_
            simp (disch:=omega) only [zA,zB,zC,zD,zF,zG,zH,↓reduceIte,hPr,a3,hj,a2]
            refine hJ3 _ _ ⟨rfl,fun x hx hne=>by rw [List.getElem?_set_ne (Ne.symm hne)];exact q1 x hx hne,by simp [q2],List.getElem?_set_self (qbr q3)⟩
          rintro v H3 ⟨rfl,q1,q2,q3⟩ J3
          rw [List.take_of_length_le (by omega),List.drop_of_length_le (by omega),List.append_nil] at q3
          have hm3:=hm2.setRow (i:=P.length) (x:=N0) (by omega) hN0l (by rw [←hbi];exact q1) (by rw [←hbi];exact q3)
          rw [hN0,hfront] at hm3
          have hNl:(qc9 P.length i col M1).length=M1.length:=qdr
          have hEl:=qcc P.length col (qc9 P.length i col M1)
          have hEg:=fun k hk=>qff (r:=P.length) (col:=col) (M:=qc9 P.length i col M1) (k:=k) hk
          obtain⟨N,hN⟩:∃ N,N=qc9 P.length i col M1:=⟨_,rfl⟩
          rw [←hN] at hm3 hNl hEl hEg hst hsp
          obtain⟨E,hE⟩:∃ E,E=qhh P.length col N:=⟨_,rfl⟩
          rw [←hE] at hEl hEg hst hsp
          have hNr:∀ k,k<N.length→k≠P.length→E.getD k []=lsub (N.getD k []) (ent N k col) (N.getD P.length []):=fun k hk hkr=>by rw [hEg k hk,if_neg hkr]
          have hNrr:E.getD P.length []=N.getD P.length []:=by rw [hEg _ (by omega),if_pos rfl]
          have hc3:=(q1 cb (qbr hc2) (by omega)).trans hc2
          have hob3:=(q1 H.length (by omega) (by omega)).trans hob2
          have hfr3:∀ x,x<H.length→x∉sb :: bs→H3[x]? = H[x]?:=fun x hx hxn=>by
            have hxn':=hxn
            simp only [List.mem_cons,not_or] at hxn'
            rw [q1 x (by omega) (fun h=>hxn'.2 (hsub2 _ (h ▸ hbi2))),hfr2 x hxn'.1,hfr x hx hxn]
          have hl3:H.length<H3.length:=by omega
          clear q1 q2 q3 l4 l5 l1 l3 s1 s2 hrow2
          simp (disch:=omega) only [zA,zB,zC,zD,zF,zG,zH,↓reduceIte]
          refine loopV1.nat L (fun k j H'=>j=nv k∧Mt cd n sb bs2 H' (E.take k++N.drop k)∧(∀ x,x<H.length→x∉sb :: bs→H'[x]? = H[x]?)∧H'[cb]? = some (.cells [nv col] 3 none false)∧H'[H.length]? = some (.cells [nv p,nv e,.slice (some ⟨b,0,none⟩) e c] 96 none false)∧H.length<H'.length) ⟨rfl,by simpa using hm3,hfr3,hc3,hob3,hl3⟩ ?_ ?_
          · rintro k2 j H5 hkm ⟨rfl,hm5,hfr5,hc5,hob5,hl5⟩ J4 hJ4
            have hbl3:k2<bs2.length:=by omega
            have hCl:(E.take k2++N.drop k2).length=L:=by simp;omega
            have hCk:=qk8 [] N E k2 (by omega)
            have hpre:=qk7 [] N E k2 (by omega) (by omega)
            obtain⟨op5,ho5⟩:=hm5.spine
            have l6:=ld_sp ho5 hbl3
            by_cases hkr:k2=P.length
            · subst hkr
              simp (disch:=omega) only [zA,zB,zC,zD,zF,zG,zH,↓reduceIte,hkm,l6]
              refine hJ4 _ _ ⟨rfl,?_,hfr5,hc5,hob5,hl5⟩
              rw [←hpre,hNrr,←hCk]
              have:∀ (L:List (List α)) (k:Nat),k<L.length→L.set k (L.getD k [])=L:=fun L k hL=>by
                refine List.ext_getElem (by simp) fun l h1 h2=>?_
                by_cases hlk:k=l
                · subst hlk;simp [List.getD_eq_getElem?_getD,List.getElem?_eq_getElem h2]
                · simp [List.getElem_set_ne hlk]
              rw [this _ _ (by omega)]
              exact hm5
            · have hrow5:=hm5.row k2 (by omega)
              rw [hCk] at hrow5
              have hNwk:(N.getD k2 []).length=n:=by
                have:=qcd hm5.width (k:=k2) (by omega)
                rwa [hCk] at this
              have hCr:(E.take k2++N.drop k2).getD P.length []=N.getD P.length []:=by
                simp only [List.getD_eq_getElem?_getD]
                by_cases hlt:P.length<k2
                · rw [List.getElem?_append_left (by simp;omega),List.getElem?_take_of_lt hlt]
                  simpa [List.getD_eq_getElem?_getD] using hNrr
                · rw [List.getElem?_append_right (by simp;omega)]
                  simp only [List.length_take,List.getElem?_drop]
                  congr 2
                  omega
              have hNwr:(N.getD P.length []).length=n:=by
                have:=qcd hm5.width (k:=P.length) (by omega)
                rwa [hCr] at this
              have hrowr:=hm5.row P.length (by omega)
              rw [hCr] at hrowr
              have l7:=ld_ev hrow5 (k:=col) (by omega)
              have l8:=ld_sp ho5 hrb2
              have hbk2:=getD_mem (d:=0) hbl3
              have hb5:H5[b]? = some blk:=by rw [hfr5 b hltb hbn];exact hb
              have hnb:b≠bs2.getD k2 0:=fun h=>hbn'.2 (hsub2 _ (h ▸ hbk2))
              simp (disch:=omega) only [zA,zB,zC,zD,zF,zG,zH,↓reduceIte,hkm,l6,hkr,hob5,hc5,l7,hcn,hPr,l8]
              refine FZ.use (F.neg _ _ hb5) ?_
              simp (disch:=omega) only [zA,zB,zC,zD,zF,zG,zH,↓reduceIte,hob5,l8]
              have hck2:bs2.getD k2 0≠bs2.getD P.length 0:=qgh hnd2.2 hbl3 hrb2 hkr
              have hxr:∀ H':AH,(∀ x,x<H5.length→x≠bs2.getD k2 0→H'[x]? = H5[x]?)→Row H' (rsl n (bs2.getD P.length 0)) (evs cd (N.getD P.length [])):=fun H' hH'=>Row.of (by rw [hH' _ (qbr hrowr) (Ne.symm hck2)];exact hrowr) (by rw [List.length_map,hNwr]) (Nat.le_refl _)
              have hadd:=cadd_c F (a:=Fl.neg (ent N k2 col)) hb5 hnb hrow5 (by omega) (by omega) hxr
              rw [hNwk,lsub_plus] at hadd
              refine FZ.mono hadd ?_
              rintro v7 H7 ⟨z1,z2,z3⟩
              have hm7:=hm5.setRow (i:=k2) (by omega) (by rw [qjq (by omega),hNwk]) z1 z2
              have hEk:=hNr k2 (by omega) hkr
              rw [←hEk,hpre] at hm7
              simp (disch:=omega) only [zA,zB,zC,zD,zF,zG,zH,↓reduceIte]
              have hbkH:bs2.getD k2 0<H.length:=mlt _ (List.mem_cons_of_mem _ (hsub2 _ hbk2))
              refine hJ4 _ _ ⟨rfl,hm7,fun x hx hxn=>?_,(z1 cb (qbr hc5) (by omega)).trans hc5,(z1 H.length (by omega) (by omega)).trans hob5,by omega⟩
              have hxn':=hxn
              simp only [List.mem_cons,not_or] at hxn'
              rw [z1 x (by omega) (fun h=>hxn'.2 (hsub2 _ (h ▸ hbk2)))]
              exact hfr5 x hx hxn
          · rintro j H5 ⟨rfl,hm5,hfr5,hc5,hob5,hl5⟩ J4
            rw [List.take_of_length_le (by omega),List.drop_of_length_le (by omega),List.append_nil] at hm5
            simp (disch:=omega) only [zA,zB,zC,zD,zF,zG,zH,↓reduceIte]
            exact hJ2 _ _ ⟨bs2,E,P++[col],by simp,hc5,hob5,hm5,hst,by omega,fun u=>(hsp u).trans (hs1 u),hfr5,hsub2,hl5⟩
      · rintro r' H5 ⟨bs',M',P',rfl,k1,k2,k3,k4,k5,k6,k7,k8,k9⟩
        have s7:=qfm (c:=[nv 0]) (e:=3) (op:=none) (H:=H5++[.cells [nv 0] 3 none false]) (bl:=H5.length) (o:=0) (v:=nv col) rfl rfl (by simp)
        have e7:(H5++[AB.cells [nv 0] 3 none false]).set H5.length (AB.cells ([nv 0].set 0 (nv col)) 3 none false)=H5++[.cells [nv col] 3 none false]:=by
          rw [List.set_append_right _ _ (by omega)];simp
        rw [e7] at s7
        have s8:=qfm (c:=[nv col]) (e:=3) (op:=none) (H:=H5++[.cells [nv col] 3 none false]) (bl:=H5.length) (o:=0) (v:=nv (col+1)) rfl rfl (by simp)
        have e8:(H5++[AB.cells [nv col] 3 none false]).set H5.length (AB.cells ([nv col].set 0 (nv (col+1))) 3 none false)=H5++[.cells [nv (col+1)] 3 none false]:=by
          rw [List.set_append_right _ _ (by omega)];simp
        rw [e8] at s8
        simp (disch:=omega) only [zA,zB,zC,zD,zF,zG,zH,↓reduceIte,k1,s7,s8]
        have hp:=Pre.new H5 [.cells [nv (col+1)] 3 none false]
        refine hJ _ _ _ ⟨m-1,by omega,col+1,H5.length,bs',M',P',by omega,rfl,k9,by simp,rfl,hp.get k2,k3.keep fun x hx=>hp x (k3.lt x hx),k4,k5,k6,fun x hx hxn=>(hp x (by omega)).trans (k7 x hx hxn),k8,by simp;omega⟩
    · simp (disch:=omega) only [zA,zB,zC,zD,zF,zG,zH,↓reduceIte,hc4,hcn,hPr,qjx]
      exact hdone (hr1.full (by omega) (.inl (by omega)))
  · simp (disch:=omega) only [zA,zB,zC,zD,zF,zG,zH,↓reduceIte,hc4,hcn,qjx]
    exact hdone (hr1.full (by omega) (.inr (by omega)))
end
end Go.Sim

namespace Go.Sim
section
variable {α:Type} [Fl α] [DecidableEq α]
open Fl
def dotn:Nat→Vc α→Vc α→α
  | 0,_,_=>zero
  | k+1,u,w=>add (dotn k u w) (mul (u k) (w k))
theorem ldotk_dotn (xs ys:List α):∀ k,ldotk xs ys k=dotn k (toV xs) (toV ys)
  | 0=>rfl
  | k+1=>by rw [ldotk,dotn,ldotk_dotn xs ys k];rfl
theorem qb7 {u w u' w':Vc α}:∀ k,(∀ j,j<k→mul (u j) (w j)=mul (u' j) (w' j))→dotn k u w=dotn k u' w'
  | 0,_=>rfl
  | k+1,h=>by rw [dotn,dotn,qb7 k (fun j hj=>h j (by omega)),h k (by omega)]
theorem qcx (u w:Vc α) (k:Nat):dotn k u w=dotn k w u:=qb7 k fun _ _=>mul_comm _ _
theorem dotn_va (u u' w:Vc α):∀ k,dotn k (va u u') w=add (dotn k u w) (dotn k u' w)
  | 0=>(add_zero _).symm
  | k+1=>by
    rw [dotn,dotn,dotn,dotn_va u u' w k]
    show add _ (mul (add (u k) (u' k)) (w k))=_
    rw [Fl.add_mul,Fl.add_swap]
theorem dotn_vs (a:α) (u w:Vc α):∀ k,dotn k (vs a u) w=mul a (dotn k u w)
  | 0=>(Fl.mul_zero _).symm
  | k+1=>by
    rw [dotn,dotn,dotn_vs a u w k]
    show add _ (mul (mul a (u k)) (w k))=_
    rw [mul_assoc,mul_add]
theorem dotn_vz (w:Vc α):∀ k,dotn k vz w=zero
  | 0=>rfl
  | k+1=>by
    rw [dotn,dotn_vz w k]
    show add zero (mul zero (w k))=zero
    rw [Fl.zero_mul,add_zero]
theorem dotn_var (w u u':Vc α) (k:Nat):dotn k w (va u u')=add (dotn k w u) (dotn k w u'):=by rw [qcx,dotn_va,qcx u,qcx u']
theorem dotn_vsr (a:α) (w u:Vc α) (k:Nat):dotn k w (vs a u)=mul a (dotn k w u):=by rw [qcx,dotn_vs,qcx u]
theorem dotn_vzr (w:Vc α) (k:Nat):dotn k w vz=zero:=by rw [qcx,dotn_vz]
def vun (p:Nat):Vc α:=fun j=>if j=p then Fl.one else zero
theorem qmn (w:Vc α) (p:Nat):∀ k,k≤p→dotn k w (vun p)=zero
  | 0,_=>rfl
  | k+1,h=>by
    rw [dotn,qmn w p k (by omega),vun,if_neg (by omega),Fl.mul_zero,add_zero]
theorem qhk (w:Vc α) (p:Nat):∀ k,p<k→dotn k w (vun p)=w p
  | 0,h=>by omega
  | k + 1,h=>by
    rw [dotn]
    by_cases hp:k=p
    · subst hp
      rw [qmn w k k (Nat.le_refl _),vun,if_pos rfl,mul_one,Fl.zero_add]
    · rw [qhk w p k (by omega),vun,if_neg hp,Fl.mul_zero,add_zero]
theorem qg2 (c:Nat→α) (R:Nat→Vc α) (j:Nat):∀ m,comb c R m j=dotn m c (fun i=>R i j)
  | 0=>rfl
  | k+1=>by
    show add (comb c R k j) (mul (c k) (R k j))=_
    rw [qg2 c R j k];rfl
theorem qkv (w:Vc α) (c:Nat→α) (R:Nat→Vc α) (n:Nat):∀ m,dotn n w (comb c R m)=dotn m c (fun i=>dotn n w (R i))
  | 0=>dotn_vzr w n
  | k+1=>by rw [comb,dotn_var,dotn_vsr,qkv w c R n k];rfl
theorem qhq (c:Nat→α) (R:Nat→Vc α):∀ m,Span m R (comb c R m)
  | 0=>.zero
  | k+1=>.step _ ((qhq c R k).mono fun i hi=>Span.row (by omega)) (by omega)
theorem comb_unit' (R:Nat→Vc α) (c:α) (i:Nat) (m:Nat) (hi:i<m):comb (fun k=>if k=i then c else zero) R m=vs c (R i):=
  qkw R c i _ m hi (if_pos rfl) (fun k _ hk=>if_neg hk)
theorem span_comb {m:Nat} {R:Nat→Vc α} {v:Vc α} (h:Span m R v):∃ c,v=comb c R m:=by
  induction h with
  | zero=>exact⟨fun _=>zero,(qhp R _ _ fun _ _=>rfl).symm⟩
  | @step w i c _ hi ih =>
    obtain⟨d,rfl⟩:=ih
    refine⟨fun k=>add (d k) (if k=i then c else zero),?_⟩
    rw [comb_add R d (fun k=>if k=i then c else zero) _ m (fun _ _=>rfl),comb_unit' R c i m hi]
theorem qgb {n:Nat} {xss:List (List α)} {cs:List α} (hl:∀ x∈xss,x.length=n):∀ k,k≤xss.length→toV (qfz n xss cs k)=comb (toV cs) (rowV xss) k
  | 0,_=>toV_zero n
  | k+1,hk=>by
    have h1:=qd8 (cs:=cs) hl k (by omega)
    rw [qfz,qfj (by rw [h1,qcd hl (by omega)]),qgb hl k (by omega)]
    rfl
theorem lcomb_span {n:Nat} {xss:List (List α)} {cs:List α} (hl:∀ x∈xss,x.length=n):LSpan xss (toV (lcomb n xss cs)):=by
  rw [lcomb,qgb hl _ (Nat.le_refl _)]
  exact qhq _ _ _
theorem sub_eq {a b:α} (h:add a (mul (neg Fl.one) b)=zero):a=b:=by
  have h1:=congrFun (vneg (fun _:Nat=>b)) 0
  have h2:add b (mul (neg Fl.one) b)=zero:=h1
  have h3:add (mul (neg Fl.one) b) a=add (mul (neg Fl.one) b) b:=by rw [add_comm _ a,add_comm _ b,h,h2]
  exact Fl.add_left_cancel h3
def Nul (n:Nat) (S:Vc α→Prop) (u:Vc α):Prop:=(∀ j,n≤j→u j=zero)∧∀ w,S w→dotn n w u=zero
theorem Nul.vz {n:Nat} {S:Vc α→Prop}:Nul n S vz:=⟨fun _ _=>rfl,fun w _=>dotn_vzr w n⟩
theorem Nul.va {n:Nat} {S:Vc α→Prop} {u v:Vc α} (hu:Nul n S u) (hv:Nul n S v):Nul n S (va u v):=
  ⟨fun j hj=>by show add (u j) (v j)=zero;rw [hu.1 j hj,hv.1 j hj,add_zero],fun w hw=>by rw [dotn_var,hu.2 w hw,hv.2 w hw,add_zero]⟩
theorem Nul.vs {n:Nat} {S:Vc α→Prop} {u:Vc α} (a:α) (hu:Nul n S u):Nul n S (vs a u):=
  ⟨fun j hj=>by show mul a (u j)=zero;rw [hu.1 j hj,Fl.mul_zero],fun w hw=>by rw [dotn_vsr,hu.2 w hw,Fl.mul_zero]⟩
theorem Nul.cong {n:Nat} {S S':Vc α→Prop} (h:∀ w,S w↔S' w) (u:Vc α):Nul n S u↔Nul n S' u:=
  ⟨fun hu=>⟨hu.1,fun w hw=>hu.2 w ((h w).2 hw)⟩,fun hu=>⟨hu.1,fun w hw=>hu.2 w ((h w).1 hw)⟩⟩
theorem Nul.of {n m:Nat} {R:Nat→Vc α} {u:Vc α} (h0:∀ j,n≤j→u j=zero) (h:∀ i,i<m→dotn n (R i) u=zero):Nul n (Span m R) u:=by
  refine⟨h0,fun w hw=>?_⟩
  induction hw with
  | zero=>exact dotn_vz u n
  | step c _ hi ih=>rw [dotn_va,dotn_vs,ih,h _ hi,Fl.mul_zero,add_zero]
def nuV (R:Nat→Vc α) (P:Nat→Nat) (m c:Nat):Vc α:=va (vun c) (comb (fun i=>neg (R i c)) (fun i=>vun (P i)) m)
section
variable {n m:Nat} {R:Nat→Vc α} {P:Nat→Nat}
theorem Red.inj (h:Red m R P) {i j:Nat} (hi:i<m) (hj:j<m) (he:P i=P j):i=j:=by
  rcases Nat.lt_trichotomy i j with h1|h1|h1
  · have:=h.inc i j h1 hj;omega
  · exact h1
  · have:=h.inc j i h1 hi;omega
theorem Red.delta (h:Red m R P) {i k:Nat} (hi:i<m) (hk:k<m):R i (P k)=vun i k:=by
  unfold vun
  by_cases he:k=i
  · rw [if_pos he,he,h.one i hi]
  · rw [if_neg he];exact h.alone k i hk hi he
theorem nu_dot (hP:∀ i,i<m→P i<n) {c:Nat} (hc:c<n) (w:Vc α):dotn n w (nuV R P m c)=add (w c) (dotn m (fun i=>neg (R i c)) (fun i=>w (P i))):=by
  rw [nuV,dotn_var,qhk w c n hc,qkv]
  congr 1
  exact qb7 m fun i hi=>by rw [qhk w (P i) n (hP i hi)]
theorem nu_free {c d:Nat} (hd:∀ i,i<m→P i≠d):nuV R P m c d=vun c d:=by
  show add (vun c d) (comb _ _ m d)=_
  rw [qg2,qb7 (u':=vz) (w':=vz) m fun i hi=>by rw [vun,if_neg (Ne.symm (hd i hi)),Fl.mul_zero];exact (Fl.mul_zero _).symm,dotn_vz,add_zero]
theorem nu_span (h:Red m R P) (hP:∀ i,i<m→P i<n) (hR:∀ i j,i<m→n≤j→R i j=zero) {fr:List Nat} (hn:fr.Nodup) (hf:∀ c,c∈fr↔c<n∧∀ i,i<m→P i≠c) {N:List (List α)} (hl:N.length=fr.length) (hN:∀ k,k<fr.length→rowV N k=nuV R P m (fr.getD k 0)) (u:Vc α) :
    LSpan N u↔Nul n (Span m R) u:=by
  have hfr:∀ k,k<fr.length→fr.getD k 0<n∧∀ i,i<m→P i≠fr.getD k 0:=fun k hk=>(hf _).1 (getD_mem hk)
  have fwd:∀ u,LSpan N u→Nul n (Span m R) u:=by
    intro u hu
    refine hu.sub Nul.vz (fun _ _=>Nul.va) (fun c _=>Nul.vs c) fun x hx=>?_
    obtain⟨k,hk,rfl⟩:=List.mem_iff_getElem.1 hx
    have hk':k<fr.length:=by omega
    obtain⟨h1,h2⟩:=hfr k hk'
    rw [←qd4 hk,hN k hk']
    refine Nul.of (fun j hj=>?_) fun i hi=>?_
    · rw [nu_free (fun i hi=>by have:=hP i hi;omega),vun,if_neg (by omega)]
    · rw [nu_dot hP h1,qb7 (u':=fun i=>neg (R i (fr.getD k 0))) (w':=vun i) m (fun l hl=>by rw [h.delta hi hl]),qhk _ i m hi,add_neg]
  refine⟨fwd u,fun hu=>?_⟩
  have hs:LSpan N (comb (fun k=>u (fr.getD k 0)) (rowV N) N.length):=qhq _ _ _
  generalize he:comb (fun k=>u (fr.getD k 0)) (rowV N) N.length=s at hs
  have hsn:=fwd s hs
  have hfree:∀ k,k<fr.length→s (fr.getD k 0)=u (fr.getD k 0):=by
    intro k hk
    rw [←he,qg2,qb7 (u':=fun k=>u (fr.getD k 0)) (w':=vun k),qhk _ k _ (by omega)]
    intro l hl'
    have hl2:l<fr.length:=by omega
    congr 1
    rw [hN l hl2,nu_free (hfr k hk).2]
    unfold vun
    by_cases hlk:l=k
    · rw [if_pos hlk,if_pos (by rw [hlk])]
    · rw [if_neg hlk,if_neg (qgh hn hk hl2 (Ne.symm hlk))]
  have hz:∀ j,j<n→(∀ i,i<m→P i≠j)→s j=u j:=by
    intro j hj hp
    obtain⟨k,hk,rfl⟩:=List.mem_iff_getElem.1 ((hf j).2 ⟨hj,hp⟩)
    have:=hfree k hk
    simpa [List.getD_eq_getElem?_getD,List.getElem?_eq_getElem hk] using this
  have hpv:∀ i,i<m→add (u (P i)) (mul (neg Fl.one) (s (P i)))=zero:=by
    intro i hi
    have ht:=(hu.va (hsn.vs (neg Fl.one))).2 (R i) (Span.row hi)
    rw [qb7 (u':=va u (vs (neg Fl.one) s)) (w':=vun (P i)),qhk _ _ n (hP i hi)] at ht
    · exact ht
    intro j hj
    by_cases hjp:∃ k,k<m∧P k=j
    · obtain⟨k,hk,rfl⟩:=hjp
      rw [h.delta hi hk,mul_comm]
      congr 1
      unfold vun
      by_cases hki:k=i
      · rw [if_pos hki,if_pos (by rw [hki])]
      · rw [if_neg hki,if_neg (fun e=>hki (h.inj hk hi e))]
    · have hp:∀ i,i<m→P i≠j:=fun k hk hkj=>hjp ⟨k,hk,hkj⟩
      have:va u (vs (neg Fl.one) s) j=zero:=by
        show add (u j) (mul (neg Fl.one) (s j))=zero
        rw [hz j hj hp]
        exact congrFun (vneg u) j
      rw [this,Fl.mul_zero,Fl.zero_mul]
  have:u=s:=by
    funext j
    by_cases hj:j<n
    · by_cases hjp:∃ k,k<m∧P k=j
      · obtain⟨k,hk,rfl⟩:=hjp
        exact sub_eq (hpv k hk)
      · exact (hz j hj fun k hk hkj=>hjp ⟨k,hk,hkj⟩).symm
    · rw [hu.1 j (by omega),hsn.1 j (by omega)]
  rw [this]
  exact hs
end
end
end Go.Sim

namespace Go.Sim
section
variable {α:Type} [Fl α] [DecidableEq α]
open Fl
theorem qgv {β:Type} [DecidableEq β]:∀ (l l':List β),l.Nodup→(∀ x∈l,x∈l')→l.length≤l'.length
  | [],_,_,_=>Nat.zero_le _
  | x :: l,l',hn,hs=>by
    have hn':=List.nodup_cons.1 hn
    have hx:x∈l':=hs x (by simp)
    have h:=qgv l (l'.erase x) hn'.2 (fun y hy=>(List.mem_erase_of_ne (fun e=>hn'.1 (by rw [←e];exact hy))).2 (hs y (by simp [hy])))
    have h2:=List.length_erase_of_mem hx
    have h3:0<l'.length:=List.length_pos_iff.2 (fun e=>by rw [e] at hx;simp at hx)
    simp only [List.length_cons]
    omega
theorem lclr_span {n:Nat} {B:List (List α)} {v:List α} (hB:LRed n B) (hv:v.length=n):lpiv (lclr B v)=(lclr B v).length↔LSpan B (toV v):=by
  have hl:=hB.piv.1
  have hwl:=qgz hl hv
  obtain⟨s,hs1,hs2⟩:=qmh hl hv B.length (Nat.le_refl _)
  have hz:=qmg hB hv B.length (Nat.le_refl _)
  change toV (lclr B v)=_ at hs2
  change ∀ i,i<B.length→toV (lclr B v) _=zero at hz
  constructor
  · intro h0
    have hw0:toV (lclr B v)=vz:=by
      funext j
      by_cases hj:j<(lclr B v).length
      · exact qct _ _ (by omega)
      · exact qf3 (by omega)
    have h:va (va (toV v) s) (vs (neg Fl.one) s)=toV v:=by rw [qhx,vneg,qfh]
    rw [←h,←hs2,hw0,qpt]
    exact Span.smul _ hs1
  · intro hv2
    have hw:LSpan B (toV (lclr B v)):=by rw [hs2];exact Span.add hv2 hs1
    have hc:=hB.red.coord hw
    have h0:toV (lclr B v)=vz:=by
      rw [hc]
      exact qhp _ _ _ fun i hi=>hz i hi
    have hle:=lpiv_le (lclr B v)
    by_cases hlt:lpiv (lclr B v)<(lclr B v).length
    · exact absurd (congrFun h0 _) (qq8 _ hlt)
    · omega
theorem lhas_iff {n:Nat} {rows:List (List α)} {v:List α} (hl:∀ x∈rows,x.length=n) (hv:v.length=n):lhas rows v=true↔LSpan rows (toV v):=by
  obtain⟨h1,h2,_⟩:=qcb hl
  rw [lhas,decide_eq_true_iff,←h2,←lclr_span h1 hv,qgz h1.piv.1 hv,hv]
theorem qrd {p:Nat} {w:List α}:∀ l:List (List α),(lins p w l).length=l.length+1
  | []=>rfl
  | x :: l=>by
    unfold lins
    split
    · simp
    · simp [qrd l]
theorem qq7 (B:List (List α)) (v:List α):(lput B v).length=if lpiv (lclr B v)=(lclr B v).length then B.length else B.length+1:=by
  unfold lput
  simp only
  split
  · rfl
  · rw [lputF_lins,qrd]
theorem qm5 (rows:List (List α)) (v:List α):qb4 (rows++[v])=lput (qb4 rows) v:=by simp [qb4,List.foldl_append]
theorem has_count {n:Nat} {rows:List (List α)} {v:List α} (hl:∀ x∈rows,x.length=n) (hv:v.length=n):decide ((qb4 (rows++[v])).length=(qb4 rows).length)=lhas rows v:=by
  obtain⟨h1,h2,_⟩:=qcb hl
  rw [qm5,qq7,lhas,hv,qgz h1.piv.1 hv]
  split
  · simp [*]
  · simp [*]
theorem lreduce_indep {n:Nat} {rows:List (List α)} (hl:∀ x∈rows,x.length=n) (h:∀ k,k<rows.length→¬LSpan (rows.take k) (toV (rows.getD k []))):(qb4 rows).length=rows.length:=by
  have key:∀ k,k≤rows.length→(qb4 (rows.take k)).length=k:=by
    intro k
    induction k with
    | zero=>intro _;rfl
    | succ k ih =>
      intro hk
      have hlk:∀ x∈rows.take k,x.length=n:=fun x hx=>hl x (List.mem_of_mem_take hx)
      have hv:=qcd hl (show k<rows.length by omega)
      have he:rows.take (k+1)=rows.take k++[rows.getD k []]:=by
        rw [List.take_succ_eq_append_getElem (by omega),qcj (by omega)]
      have hh:=h k (by omega)
      rw [←lhas_iff hlk hv,←has_count hlk hv,←he] at hh
      simp only [decide_eq_true_iff] at hh
      rw [he,qm5,qq7] at hh ⊢
      have:=ih (by omega)
      split
      · rename_i h1;rw [if_pos h1] at hh;exact absurd rfl hh
      · omega
  have:=key rows.length (Nat.le_refl _)
  rwa [List.take_length] at this
def qcn (m:Nat) (w:Vc α):Vc α:=fun j=>if j<m then zero else w (j-m)
def vdrop (m:Nat) (v:Vc α):Vc α:=fun j=>v (j+m)
theorem qp7 (m:Nat) (w:Vc α):vdrop m (qcn m w)=w:=by
  funext j
  show (if j+m<m then zero else w (j+m-m))=w j
  rw [if_neg (by omega),Nat.add_sub_cancel]
theorem vshift_drop {m:Nat} {v:Vc α} (h:∀ j,j<m→v j=zero):qcn m (vdrop m v)=v:=by
  funext j
  unfold qcn vdrop
  split
  · rename_i hj;exact (h j hj).symm
  · congr 1;omega
theorem vshift_va (m:Nat) (u v:Vc α):qcn m (va u v)=va (qcn m u) (qcn m v):=by
  funext j
  show (if _ then _ else _)=add (if _ then _ else _) (if _ then _ else _)
  split
  · exact (add_zero _).symm
  · rfl
theorem vshift_vs (m:Nat) (c:α) (v:Vc α):qcn m (vs c v)=vs c (qcn m v):=by
  funext j
  show (if _ then _ else _)=mul c (if _ then _ else _)
  split
  · exact (Fl.mul_zero _).symm
  · rfl
theorem vshift_vz (m:Nat):qcn m (vz:Vc α)=vz:=by
  funext j
  unfold qcn;split<;>rfl
theorem qj4 (x:List α) (m:Nat):toV (x.drop m)=vdrop m (toV x):=by
  funext j
  simp only [toV,vdrop,List.getD_eq_getElem?_getD,List.getElem?_drop,Nat.add_comm]
def ltail (m:Nat) (L:List (List α)):List (List α):=(L.filter fun l=>decide (m≤lpiv l)).map fun l=>l.drop m
theorem qq9 {x:List α} {m:Nat} (h:m≤lpiv x) (hx:lpiv x<x.length):lpiv (x.drop m)=lpiv x-m:=by
  refine lpiv_eq (by rw [List.length_drop];omega) (fun j hj=>?_) ?_
  · have:=congrFun (qj4 x m) j
    refine this.trans (qct x (j+m) (by omega))
  · have h1:=congrFun (qj4 x m) (lpiv x-m)
    intro h2
    have h3:=h1.symm.trans h2
    unfold vdrop at h3
    rw [Nat.sub_add_cancel h] at h3
    exact qq8 x hx h3
theorem ltail_red {m n:Nat} {L:List (List α)} (h:LRed (m+n) L):LRed n (ltail m L)∧∀ u,LSpan (ltail m L) u↔LSpan L (qcn m u):=by
  have mem:∀ x∈L.filter (fun l=>decide (m≤lpiv l)),x∈L∧m≤lpiv x:=fun x hx=>by simpa using List.mem_filter.1 hx
  have at_:∀ (x:List α) j,m≤j→(x.drop m).getD (j-m) zero=x.getD j zero:=fun x j hj=>by
    have:=congrFun (qj4 x m) (j-m)
    unfold vdrop at this
    rw [Nat.sub_add_cancel hj] at this
    exact this
  refine⟨⟨fun y hy=>?_,?_⟩,fun u=>⟨fun hu=>?_,fun hu=>?_⟩⟩
  · obtain⟨x,hx,rfl⟩:=List.mem_map.1 hy
    obtain⟨hxL,hp⟩:=mem x hx
    obtain⟨h1,h2,h3⟩:=h.row x hxL
    rw [qq9 hp (by omega),at_ x _ hp]
    exact⟨by rw [List.length_drop];omega,by omega,h3⟩
  · unfold ltail
    rw [List.pairwise_map]
    refine (h.pw.filter _).imp_of_mem fun {a b} ha hb hab=>?_
    obtain⟨haL,hpa⟩:=mem a ha
    obtain⟨hbL,hpb⟩:=mem b hb
    have ra:=h.row a haL
    have rb:=h.row b hbL
    rw [qq9 hpa (by omega),qq9 hpb (by omega),at_ a _ hpb,at_ b _ hpa]
    exact⟨by have:=hab.1;omega,hab.2⟩
  · refine hu.sub (S:=fun u=>LSpan L (qcn m u)) ?_ (fun u v hu hv=>?_) (fun c u hu=>?_) (fun y hy=>?_)
    · show LSpan L (qcn m vz);rw [vshift_vz];exact .zero
    · show LSpan L (qcn m (va u v));rw [vshift_va];exact Span.add hu hv
    · show LSpan L (qcn m (vs c u));rw [vshift_vs];exact Span.smul _ hu
    · obtain⟨x,hx,rfl⟩:=List.mem_map.1 hy
      obtain⟨hxL,hp⟩:=mem x hx
      show LSpan L (qcn m (toV (x.drop m)))
      rw [qj4,vshift_drop (v:=toV x) (fun j hj=>qct x j (by omega))]
      exact LSpan.mem hxL
  · have hc:=h.red.coord hu
    obtain⟨c,hcd⟩:∃ c:Nat→α,c=fun i=>qcn m u (lpiv (L.getD i [])):=⟨_,rfl⟩
    rw [←hcd] at hc
    have hz:∀ i,i<L.length→c i=zero∨m≤lpiv (L.getD i []):=fun i hi=>by
      rw [hcd]
      by_cases hlt:lpiv (L.getD i [])<m
      · left;show qcn m u _=zero;unfold qcn;rw [if_pos hlt]
      · right;omega
    have key:∀ k,k≤L.length→LSpan (ltail m L) (vdrop m (comb c (rowV L) k)):=by
      intro k
      induction k with
      | zero=>intro _;exact .zero
      | succ k ih =>
        intro hk
        show LSpan (ltail m L) (va (vdrop m (comb c (rowV L) k)) (vs (c k) (vdrop m (rowV L k))))
        rcases hz k (by omega) with h0|h0
        · rw [show c k=zero from h0,vs_zero,qfh];exact ih (by omega)
        · refine Span.add (ih (by omega)) (Span.smul _ ?_)
          rw [qd4 (show k<L.length by omega),←qj4]
          rw [qcj (show k<L.length by omega)] at h0
          exact LSpan.mem (List.mem_map.2 ⟨_,List.mem_filter.2 ⟨List.getElem_mem _,by simpa using h0⟩,rfl⟩)
    have:=key L.length (Nat.le_refl _)
    rw [←hc,qp7] at this
    exact this
theorem laug_row {n:Nat} (rows:List (List α)) {j:Nat} (hj:j<n) (i:Nat):rowV (laug n rows) j i=if i<rows.length then rowV rows i j else vun j (i-rows.length):=by
  have hl:j<(laug n rows).length:=by simpa [laug] using hj
  rw [qd4 hl]
  have he:(laug n rows)[j]=rows.map (fun r=>r.getD j zero)++lunit n j:=by simp [laug]
  rw [he]
  unfold toV
  rw [List.getD_eq_getElem?_getD]
  split
  · rename_i hi
    rw [List.getElem?_append_left (by simpa using hi)]
    simp [rowV,toV,List.getD_eq_getElem?_getD,List.getElem?_eq_getElem hi]
  · rename_i hi
    rw [List.getElem?_append_right (by simpa using Nat.le_of_not_lt hi),List.length_map,←List.getD_eq_getElem?_getD,lunit,getD_set (by simpa using hj),vun]
    split
    · rfl
    · simp [List.getD_eq_getElem?_getD,List.getElem?_replicate]
      split<;>rfl
theorem toV_row_out {n:Nat} {L:List (List α)} (hl:∀ x∈L,x.length=n) {i j:Nat} (hi:i<L.length) (hj:n≤j):rowV L i j=zero:=by
  rw [qd4 hi];exact qf3 (by rw [hl _ (List.getElem_mem hi)];exact hj)
theorem qrc {n:Nat} {rows:List (List α)} (hl:∀ x∈rows,x.length=n):LRed n (qfr n rows)∧∀ u,LSpan (qfr n rows) u↔Nul n (LSpan rows) u:=by
  obtain⟨h1,h2,_⟩:=qcb (laug_len (n:=n) (rows:=rows) rfl)
  obtain⟨h3,h4⟩:=ltail_red h1
  refine⟨h3,fun u=>(h4 u).trans ((h2 _).trans ?_)⟩
  have hlen:(laug n rows).length=n:=by simp [laug]
  have hdot:∀ i,i<rows.length→∀ c:Vc α,dotn n c (fun j=>rowV (laug n rows) j i)=dotn n c (rowV rows i):=fun i hi c=>qb7 n fun j hj=>by rw [laug_row rows hj,if_pos hi]
  have htail:∀ i,∀ c:Vc α,dotn n c (fun j=>rowV (laug n rows) j (i+rows.length))=if i<n then c i else zero:=fun i c=>by
    rw [qb7 (u':=c) (w':=vun i) n fun j hj=>by
      rw [laug_row rows hj,if_neg (by omega),Nat.add_sub_cancel]
      congr 1
      unfold vun
      by_cases h:i=j
      · rw [if_pos h,if_pos h.symm]
      · rw [if_neg h,if_neg (Ne.symm h)]]
    split
    · rename_i h;exact qhk c i n h
    · rename_i h;exact qmn c i n (by omega)
  constructor
  · intro h
    obtain⟨c,hc⟩:=span_comb h
    rw [hlen] at hc
    have hu:∀ i,u i=if i<n then c i else zero:=fun i=>by
      have h5:=congrFun hc (i+rows.length)
      rw [qg2,htail] at h5
      rw [←h5]
      exact (congrFun (qp7 rows.length u) i).symm
    refine Nul.of (fun j hj=>by rw [hu j,if_neg (by omega)]) fun i hi=>?_
    have h6:=congrFun hc i
    rw [qg2,hdot i hi] at h6
    have h7:qcn rows.length u i=zero:=by unfold qcn;rw [if_pos hi]
    rw [h7,qcx] at h6
    rw [h6]
    exact qb7 n fun j hj=>by rw [hu j,if_pos hj]
  · intro h
    have:qcn rows.length u=comb u (rowV (laug n rows)) (laug n rows).length:=by
      rw [hlen]
      funext i
      rw [qg2]
      by_cases hi:i<rows.length
      · rw [hdot i hi,qcx]
        unfold qcn
        rw [if_pos hi]
        exact (h.2 _ (Span.row hi)).symm
      · have hi':i=(i-rows.length)+rows.length:=by omega
        generalize i-rows.length=k at hi'
        subst hi'
        rw [htail]
        unfold qcn
        rw [if_neg hi,Nat.add_sub_cancel]
        split
        · rfl
        · exact h.1 k (by omega)
    rw [this]
    exact qhq _ _ _
end
end Go.Sim

namespace Go.Sim
section
variable {α:Type} [Fl α] [DecidableEq α]
open Fl
theorem RedTo.red {n:Nat} {M:List (List α)} {P:List Nat} {w:Nat} (h:RedTo n w M P):Red P.length (rowV M) (fun i=>P.getD i 0):=
  ⟨h.inc,h.one,fun i k hi hk hne=>h.alone i k hi (by have:=h.len;omega) (Ne.symm hne),h.lead⟩
end
end Go.Sim

namespace Go.Sim
section
variable {α:Type} [Fl α] [DecidableEq α]
open Fl
theorem qnm {β:Type} (p:β→Bool):∀ l:List β,l.length=(l.filter p).length+(l.filter fun x=>!p x).length
  | []=>rfl
  | x :: l=>by
    have:=qnm p l
    cases h:p x<;>simp [List.filter_cons,h]<;>omega
def qg0 (n:Nat) (P:List Nat):List Nat:=(List.range n).filter fun c=>decide (c∉P)
def qkh (n:Nat) (M:List (List α)) (P:List Nat) (c:Nat):Nat→List α
  | 0=>lunit n c
  | k+1=>(qkh n M P c k).set (P.getD k 0) (neg (ent M k c))
def qgm (n:Nat) (M:List (List α)) (P:List Nat):List (List α):=(qg0 n P).map fun c=>qkh n M P c P.length
theorem qgx (n:Nat) (M:List (List α)) (P:List Nat) (c:Nat):∀ k,(qkh n M P c k).length=n
  | 0=>by simp [qkh,lunit]
  | k+1=>by simp [qkh,qgx n M P c k]
theorem lnulls_len (n:Nat) (M:List (List α)) (P:List Nat):∀ x∈qgm n M P,x.length=n:=by
  intro x hx
  obtain⟨c,_,rfl⟩:=List.mem_map.1 hx
  exact qgx _ _ _ _ _
theorem toV_set {xs:List α} {p:Nat} {a:α} (hp:p<xs.length):toV (xs.set p a)=fun j=>if j=p then a else toV xs j:=by
  funext j
  exact getD_set hp
theorem toV_unit {n c:Nat} (hc:c<n):toV (lunit (α:=α) n c)=vun c:=by
  unfold lunit
  rw [toV_set (by simpa using hc),toV_zero]
  rfl
theorem mem_getD {P:List Nat} {c:Nat}:c∈P↔∃ i,i<P.length∧P.getD i 0=c:=by
  rw [List.mem_iff_getElem]
  exact⟨fun ⟨i,hi,h⟩=>⟨i,hi,by rw [List.getD_eq_getElem?_getD,List.getElem?_eq_getElem hi];exact h⟩,fun ⟨i,hi,h⟩=>⟨i,hi,by rw [List.getD_eq_getElem?_getD,List.getElem?_eq_getElem hi] at h;exact h⟩⟩
section
variable {n:Nat} {M:List (List α)} {P:List Nat}
theorem qmf (h:RedTo n n M P) {c:Nat} (hc:c<n) (hcP:c∉P):∀ k,k≤P.length→toV (qkh n M P c k)=nuV (rowV M) (fun i=>P.getD i 0) k c
  | 0,_=>by rw [qkh,toV_unit hc,nuV,comb,qfh]
  | k + 1,hk=>by
    have hp:=h.lt k (by omega)
    rw [qkh,toV_set (by rw [qgx];exact hp),qmf h hc hcP k (by omega)]
    funext j
    show _=add (vun c j) (add (comb _ _ k j) (mul (neg (rowV M k c)) (vun (P.getD k 0) j)))
    rw [←add_assoc]
    by_cases hj:j=P.getD k 0
    · subst hj
      have h0:nuV (rowV M) (fun i=>P.getD i 0) k c (P.getD k 0)=vun c (P.getD k 0):=nu_free fun i hi=>by
        have:=h.inc i k hi (by omega);show P.getD i 0≠P.getD k 0;omega
      have h1:vun c (P.getD k 0)=(zero:α):=if_neg fun e=>hcP (mem_getD.2 ⟨k,by omega,e⟩)
      have h2:add (vun c (P.getD k 0)) (comb (fun i=>neg (rowV M i c)) (fun i=>vun (P.getD i 0)) k (P.getD k 0))=(zero:α):=by rw [←h1];exact h0
      rw [h2,if_pos rfl,vun,if_pos rfl,mul_one,Fl.zero_add]
      rfl
    · rw [if_neg hj,show vun (P.getD k 0) j=(zero:α) from if_neg hj,Fl.mul_zero,add_zero]
      rfl
theorem frees_mem {c:Nat}:c∈qg0 n P↔c<n∧c∉P:=by simp [qg0]
theorem qrr:(qg0 n P).Nodup:=List.Pairwise.filter _ List.nodup_range
theorem lnulls_span (h:RedTo n n M P) (u:Vc α):LSpan (qgm n M P) u↔Nul n (LSpan M) u:=by
  obtain⟨_,hd⟩:=h.done
  have hlen:=h.len
  have hM:∀ u,Span P.length (rowV M) u↔LSpan M u:=fun u=>by
    rw [←hd u]
    have hl:(M.take P.length).length=P.length:=by rw [List.length_take];omega
    have e:∀ i,i<P.length→rowV (M.take P.length) i=rowV M i:=fun i hi=>by
      unfold rowV
      rw [show (M.take P.length).getD i []=M.getD i [] by simp only [List.getD_eq_getElem?_getD,List.getElem?_take_of_lt hi]]
    unfold LSpan
    rw [hl]
    exact⟨Span.mono fun i hi=>by rw [←e i hi];exact Span.row hi,Span.mono fun i hi=>by rw [e i hi];exact Span.row hi⟩
  rw [Nul.cong (fun w=>(hM w).symm)]
  have hfree:∀ c,c∈qg0 n P↔c<n∧∀ i,i<P.length→P.getD i 0≠c:=fun c=>by
    rw [frees_mem,mem_getD]
    exact⟨fun ⟨a,b⟩=>⟨a,fun i hi e=>b ⟨i,hi,e⟩⟩,fun ⟨a,b⟩=>⟨a,fun ⟨i,hi,e⟩=>b i hi e⟩⟩
  refine nu_span h.red h.lt (fun i j hi hj=>?_) qrr hfree (by simp [qgm]) (fun k hk=>?_) u
  · exact toV_row_out h.width (by omega) hj
  · have h1:(qg0 n P).getD k 0∈qg0 n P:=getD_mem hk
    obtain⟨h2,h3⟩:=frees_mem.1 h1
    rw [←qmf h h2 h3 _ (Nat.le_refl _)]
    unfold rowV qgm
    congr 1
    simp [List.getD_eq_getElem?_getD,List.getElem?_eq_getElem hk]
theorem lnulls_kernel (h:RedTo n n M P) {rows:List (List α)} (hl:∀ x∈rows,x.length=n) (hs:∀ u,LSpan M u↔LSpan rows u):qb4 (qgm n M P)=qfr n rows:=by
  obtain⟨h1,h2,_⟩:=qcb (lnulls_len n M P)
  obtain⟨h3,h4⟩:=qrc hl
  refine h1.unique h3 fun u=>?_
  rw [h2,lnulls_span h,h4,Nul.cong hs]
theorem frees_length (h:RedTo n n M P):(qg0 n P).length+P.length=n:=by
  have hN:P.Nodup:=by
    rw [List.Nodup,List.pairwise_iff_getElem]
    intro i j hi hj hij
    have:=h.inc i j hij hj
    simp only [List.getD_eq_getElem?_getD,List.getElem?_eq_getElem hi,List.getElem?_eq_getElem hj,Option.getD_some] at this
    omega
  have h1:=qnm (fun c=>decide (c∉P)) (List.range n)
  have h2:((List.range n).filter (fun c=>!decide (c∉P))).length=P.length:=by
    refine Nat.le_antisymm (qgv _ _ (List.Pairwise.filter _ List.nodup_range) fun x hx=>?_) (qgv _ _ hN fun x hx=>?_)
    · simpa using (List.mem_filter.1 hx).2
    · refine List.mem_filter.2 ⟨?_,by simpa using hx⟩
      obtain⟨i,hi,rfl⟩:=mem_getD.1 hx
      exact List.mem_range.2 (h.lt i hi)
  rw [List.length_range,h2] at h1
  exact h1.symm
theorem lnulls_rank (h:RedTo n n M P):(qb4 (qgm n M P)).length=(qg0 n P).length:=by
  have hlen:(qgm n M P).length=(qg0 n P).length:=by simp [qgm]
  rw [lreduce_indep (lnulls_len n M P),hlen]
  intro k hk hs
  rw [hlen] at hk
  have row:∀ i,i<(qg0 n P).length→rowV (qgm n M P) i ((qg0 n P).getD k 0)=vun ((qg0 n P).getD i 0) ((qg0 n P).getD k 0):=by
    intro i hi
    obtain⟨h2,h3⟩:=frees_mem.1 (getD_mem (l:=qg0 n P) (d:=0) hi)
    obtain⟨_,h5⟩:=frees_mem.1 (getD_mem (l:=qg0 n P) (d:=0) hk)
    have e:rowV (qgm n M P) i=toV (qkh n M P ((qg0 n P).getD i 0) P.length):=by
      unfold rowV qgm
      congr 1
      simp [List.getD_eq_getElem?_getD,List.getElem?_eq_getElem hi]
    rw [e,qmf h h2 h3 _ (Nat.le_refl _)]
    exact nu_free fun l hl e=>h5 (mem_getD.2 ⟨l,hl,e⟩)
  have h1:toV ((qgm n M P).getD k []) ((qg0 n P).getD k 0)=zero:=by
    refine hs.sub (S:=fun u=>u ((qg0 n P).getD k 0)=zero) rfl (fun u v hu hv=>?_) (fun c u hu=>?_) (fun x hx=>?_)
    · show add (u _) (v _)=zero;rw [hu,hv,add_zero]
    · show mul c (u _)=zero;rw [hu,Fl.mul_zero]
    · obtain⟨i,hi,rfl⟩:=List.mem_iff_getElem.1 hx
      rw [List.length_take] at hi
      rw [List.getElem_take,←qd4 (show i<(qgm n M P).length by omega),row i (by omega)]
      exact if_neg fun e=>qgh (qrr (n:=n) (P:=P)) hk (show i<_ by omega) (by omega) e
  have h2:=row k hk
  rw [vun,if_pos rfl] at h2
  exact one_ne (h2.symm.trans h1)
end
theorem redto_exists {n:Nat} {A:List (List α)} (hl:∀ x∈A,x.length=n):∀ w,w≤n→∃ M P,RedTo n w M P∧M.length=A.length∧∀ u,LSpan M u↔LSpan A u:=by
  intro w
  induction w with
  | zero=>intro _;exact⟨A,[],RedTo.start hl,rfl,fun _=>Iff.rfl⟩
  | succ w ih =>
    intro hw
    obtain⟨M,P,h,h2,h3⟩:=ih (by omega)
    by_cases hp:∃ i,P.length≤i∧i<M.length∧ent M i w≠zero
    · obtain⟨i,h4,h5,h6⟩:=hp
      exact⟨_,_,h.step h5 h4 h6,by rw [qcc,qdr,h2],fun u=>(qqd h.width (by omega) h5 h6 u).trans (h3 u)⟩
    · exact⟨M,P,h.skip fun k hk hk2=>Classical.byContradiction fun hne=>hp ⟨k,hk,hk2,hne⟩,h2,h3⟩
theorem rank_null {n:Nat} {A:List (List α)} (hl:∀ x∈A,x.length=n):(qfr n A).length+(qb4 A).length=n:=by
  obtain⟨M,P,h,_,h3⟩:=redto_exists hl n (Nat.le_refl n)
  rw [←lnulls_kernel h hl h3,lnulls_rank h,←reduced_eq hl h h3,List.length_take,Nat.min_eq_left h.len]
  exact frees_length h
end
end Go.Sim

namespace Go.Sim
open Fl
section
variable {α:Type} [Fl α] [DecidableEq α]
theorem Cd.dual {n:Nat} {G:List (List α)} {S:Vc α→Prop} (h:Cd n G S):Cd n (qfr n G) (Nul n S):=by
  obtain⟨h1,h2⟩:=qrc (n:=n) h.red.len
  exact⟨h1,fun u=>(h2 u).trans (Nul.cong h.span u)⟩
theorem dual_red {n:Nat} {G:List (List α)} (h:LRed n G):LRed n (qfr n G):=(Cd.self h).dual.red
def addL (f:Nat→α) (l:List Nat):α:=l.foldr (fun j a=>Fl.add (f j) a) Fl.zero
end
end Go.Sim

namespace Go.Sim
open Go Go.Proofs
theorem xnew_makeS {a:Nat} (h:24*a≤281474976710656) (h2:a≤9223372036854775807):xnew (.make (.slice none 0 0) 1 24 31) [nv a,nv a]=some (List.replicate a (.slice none 0 0),31,fun b=>.slice (some ⟨b,0,none⟩) a a):=by
  simp only [xnew]
  rw [if_pos ⟨by omega,by omega,by omega,by omega⟩]
  simp only [Int.toNat_natCast,Nat.mul_one]
  congr 2
  unfold madeL madeCells
  refine List.ext_getElem (by simp) fun i h1 h2=>?_
  simp [Value.cells,Nat.mod_one]
theorem indexI_c {H:AH} {v:Value} {vs:List Value} {F:Nat} {cap:Array Value} {P:Nat→Bool} (hv:Row H v vs) (hl:vs.length≤1000) (hF:∀ k,k<vs.length→FN Tryz.prog F (vs.getD k undef :: cap.toList) H (fun r H'=>r=.bool (P k)∧H'=H)) :
    FN Tryz.prog 148 [v,.func (.func F) #[] cap] H (fun r H'=>((r=.int .i64 (-1)∧∀ k,k<vs.length→P k=false)∨∃ k,r=nv k∧k<vs.length∧P k=true∧∀ j,j<k→P j=false)∧H'=H):=by
  refine g148_of ?_
  unfold g148
  obtain⟨vl,vi,vd,_⟩:=hv.allV
  simp (disch:=omega) only [zA,zB,zC,zD,zF,zG,zH,↓reduceIte,vl]
  refine loopV1.nat vs.length (fun k i H'=>i=nv k∧H'=H∧∀ j,j<k→P j=false) ⟨rfl,rfl,fun j h=>absurd h (Nat.not_lt_zero _)⟩ ?_ ?_
  · rintro k i H hk ⟨rfl,rfl,hin⟩ J hJ
    simp (disch:=omega) only [zA,zB,zC,zD,zF,zG,zH,↓reduceIte,vi,vd,hk]
    refine FZ.use (hF k hk) ?_
    cases h:P k with
    | false =>
      simp (disch:=omega) only [zA,zB,zC,zD,zF,zG,zH,↓reduceIte]
      refine hJ _ _ ⟨rfl,rfl,fun j hj=>?_⟩
      by_cases hjk:j=k
      · rw [hjk];exact h
      · exact hin j (by omega)
    | true =>
      simp (disch:=omega) only [zA,zB,zC,zD,zF,zG,zH,↓reduceIte]
      exact .inr ⟨k,rfl,hk,h,hin⟩
  · rintro i H ⟨rfl,rfl,hin⟩ J
    simp (disch:=omega) only [zA,zB,zC,zD,zF,zG,zH,↓reduceIte]
    exact .inl hin
theorem geq_m1:xbin .geq 0 (.int .i64 (-1)) (nv 0)=some (.bool false):=by rw [qn6,decide_eq_false];omega
section
variable {α:Type} [Fl α] [DecidableEq α] {cd:α→Nat} {p e b c q:Nat} {blk:AB} {H:AH}
theorem word_c (F:FOK α cd p e b c q blk) {v:Value} {xs:List α} {n:Nat} (hv:Row H v (evs cd xs)) (hl:xs.length=n) (hn:n≤1000) :
    FN Tryz.prog 92 [nv q,nv n,v] H (fun r H'=>r=.bool true∧Pre H H'):=by
  refine g92_of ?_
  unfold g92
  have hp:=Pre.new H [.cells [nv q] 3 none false]
  have hv':=hv.pre hp
  obtain⟨vl,_,_,_⟩:=hv.all Fl.zero
  have hg:(H++[.cells [nv q] 3 none false])[H.length]? = some (.cells [nv q] 3 none false):=by simp
  simp (disch:=omega) only [zA,zB,zC,zD,zF,zG,zH,↓reduceIte,vl,hl,xp_fn1]
  have hF:FN Tryz.prog 146 [v,.func (.func 147) #[] #[.pointer (some ⟨H.length,0,none⟩)]] (H++[.cells [nv q] 3 none false]) (fun r H'=>r=.bool false∧H'=H++[.cells [nv q] 3 none false]):=by
    refine g146_of ?_
    unfold g146
    refine FZ.mono (indexI_c (P:=fun _=>false) hv' (by simp;omega) fun k hk=>?_) ?_
    · have hk':k<xs.length:=by simpa using hk
      have e1:(evs cd xs).getD k undef=nv (cd (xs.getD k Fl.zero)):=by
        simp [evs,List.getD_eq_getElem?_getD,List.getElem?_eq_getElem hk']
      rw [e1]
      refine g147_of ?_
      unfold g147
      have hlt:=F.lt (xs.getD k Fl.zero)
      have hnle:¬q≤cd (xs.getD k Fl.zero):=by omega
      simp (disch:=omega) only [zA,zB,zC,zD,zF,zG,zH,↓reduceIte,hg,hnle]
    · rintro _ _ ⟨⟨rfl,_⟩|⟨k,_,_,h,_⟩,rfl⟩
      · simp (disch:=omega) only [zA,zB,zC,zD,zF,zG,zH,↓reduceIte,geq_m1]
      · cases h
  refine FZ.use hF ?_
  simp (disch:=omega) only [zA,zB,zC,zD,zF,zG,zH,↓reduceIte]
  exact hp
theorem newOver_c (Q:FQ α cd p e q blk) (hq:q≤16):FN Tryz.prog 94 [nv q] H (fun r H'=>Pre H H'∧∃ b,r=.tuple [fldv p e b e e,.bool true].toArray∧H'[b]? = some blk∧H.length≤b):=by
  refine g94_of ?_
  unfold g94
  simp (disch:=omega) only [zA,zB,zC,zD,zF,zG,zH,↓reduceIte]
  refine FZ.use (Q.make _) ?_
  have s3:=qc7 (H:=H++[.cells [nv 0,nv 0,.slice none 0 0] 96 none false,blk,.cells [nv 0,nv 0,.slice none 0 0] 76 none false]) (bl:=H.length+2) (x:=nv p) (y:=nv e) (z:=.slice (some ⟨H.length+1,0,none⟩) e e) (c0:=nv 0) (c1:=nv 0) (c2:=.slice none 0 0) (e:=76) (op:=none) rfl rfl rfl
  have e3:(H++[AB.cells [nv 0,nv 0,.slice none 0 0] 96 none false,blk,AB.cells [nv 0,nv 0,.slice none 0 0] 76 none false]).set (H.length+2) (.cells [nv p,nv e,.slice (some ⟨H.length+1,0,none⟩) e e] 76 none false)=H++[AB.cells [nv 0,nv 0,.slice none 0 0] 96 none false,blk,fbx p e (H.length+1) e]:=by
    rw [List.set_append_right _ _ (by omega)];simp
  rw [e3] at s3
  have s4:=qc7 (H:=H++[.cells [nv 0,nv 0,.slice none 0 0] 96 none false,blk,fbx p e (H.length+1) e]) (bl:=H.length) (x:=nv p) (y:=nv e) (z:=.slice (some ⟨H.length+1,0,none⟩) e e) (c0:=nv 0) (c1:=nv 0) (c2:=.slice none 0 0) (e:=96) (op:=none) rfl rfl rfl
  have e4:(H++[AB.cells [nv 0,nv 0,.slice none 0 0] 96 none false,blk,fbx p e (H.length+1) e]).set H.length (.cells [nv p,nv e,.slice (some ⟨H.length+1,0,none⟩) e e] 96 none false)=H++[AB.cells [nv p,nv e,.slice (some ⟨H.length+1,0,none⟩) e e] 96 none false,blk,fbx p e (H.length+1) e]:=by
    rw [List.set_append_right _ _ (by omega)];simp
  rw [e4] at s4
  have f3:qbv [nv 0,nv 0,.slice none 0 0] [(0,3)] [fldv p e (H.length+1) e e]=some [nv p,nv e,.slice (some ⟨H.length+1,0,none⟩) e e]:=rfl
  simp (disch:=omega) only [zA,zB,zC,zD,zF,zG,zH,↓reduceIte,s3,f3,hq,s4]
  exact⟨Pre.new _ _,H.length+1,rfl,by simp,by omega⟩
theorem copied_c {v:Value} {n:Nat} {M:List (List α)} (hv:RowR H v (evr cd M)) (hl:∀ x∈M,x.length=n) (hM:M.length≤1000) (hn:n≤1000) (hn0:0<n) :
    FN Tryz.prog 86 [v] H (fun r H'=>Pre H H'∧∃ sb bs,r=.slice (some ⟨sb,0,none⟩) M.length M.length∧Mt cd n sb bs H' M∧∀ x∈sb :: bs,H.length≤x):=by
  refine g86_of ?_
  unfold g86
  obtain⟨vs,hvs,hvl,hvr⟩:=hv.open
  obtain⟨vl,_,_,_⟩:=hvs.allV
  rw [hvl] at vl
  have hmk:24*M.length≤281474976710656:=by omega
  simp (disch:=omega) only [zA,zB,zC,zD,zF,zG,zH,↓reduceIte,vl,xnew_makeS,hmk]
  refine loopV1.nat M.length (fun k i H'=>i=nv k∧Pre H H'∧H.length<H'.length∧∃ bs,bs.length=k∧H'[H.length]? = some (.cells (bs.map (rsl n)++List.replicate (M.length-k) (.slice none 0 0)) 31 none false)∧(∀ j,j<k→H'[bs.getD j 0]? = some (.cells (evs cd (M.getD j [])) 3 none false))∧(∀ x∈bs,H.length<x)∧bs.Nodup)
    ⟨rfl,Pre.new _ _,by simp,[],rfl,by simp,fun j hj=>by omega,by simp,List.nodup_nil⟩ ?_ ?_
  · rintro k i H3 hk ⟨rfl,hp,hlt,bs,h1,h2,h3,h4,h5⟩ J hJ
    obtain⟨_,vi,vd,_⟩:=(hvs.pre hp).allV
    have hk':k<vs.length:=by omega
    have hrow:=(hvr k hk).pre hp
    have hwk:=qcd hl hk
    have ul:=hrow.lenM
    rw [hwk] at ul
    have hmk2:8*n≤281474976710656:=by omega
    have hne:evs cd (M.getD k [])≠[]:=fun h=>by have h2:=congrArg List.length h;rw [List.length_map,hwk] at h2;simp at h2;omega
    have hsp:(H3++[.cells ((List.replicate n 0).map nv) 3 none false])[H.length]? = _:=qc4 h2 _
    have st1:=qjm (v:=rsl n H3.length) hsp (k:=k) (by simp;omega) rfl rfl
    have hset:(bs.map (rsl n)++List.replicate (M.length-k) (Value.slice none 0 0)).set k (rsl n H3.length)=(bs++[H3.length]).map (rsl n)++List.replicate (M.length-(k+1)) (.slice none 0 0):=by
      have e1:M.length-k=(M.length-(k+1))+1:=by omega
      rw [List.set_append_right _ _ (by simp;omega),e1,List.replicate_succ]
      simp [h1]
    rw [hset] at st1
    obtain⟨H5,hH5⟩:∃ H5,H5=(H3++[AB.cells ((List.replicate n 0).map nv) 3 none false]).set H.length (AB.cells ((bs++[H3.length]).map (rsl n)++List.replicate (M.length-(k+1)) (Value.slice none 0 0)) 31 none false):=⟨_,rfl⟩
    rw [←hH5] at st1
    have g5:H5[H.length]? = some (.cells ((bs++[H3.length]).map (rsl n)++List.replicate (M.length-(k+1)) (.slice none 0 0)) 31 none false):=by rw [hH5];exact List.getElem?_set_self (qbr hsp)
    have k5:∀ x,x≠H.length→x<H3.length→H5[x]? = H3[x]?:=fun x hx hx2=>by rw [hH5,List.getElem?_set_ne (Ne.symm hx),List.getElem?_append_left hx2]
    have n5:H5[H3.length]? = some (.cells ((List.replicate n 0).map nv) 3 none false):=by rw [hH5,List.getElem?_set_ne (by omega)];simp
    have l5:H5.length=H3.length+1:=by rw [hH5];simp
    have ld5:qbh none H5 [.pointer (some ⟨H.length,k,none⟩)]=some (rsl n H3.length):=by
      rw [qfx g5]
      simp [qdc,List.getElem?_append,h1]
    have hp5:Pre H H5:=fun x hx=>(k5 x (by omega) (by omega)).trans (hp x hx)
    have hrow5:=(hvr k hk).pre hp5
    have ec:=cpy_row (cc:=(List.replicate n 0).map nv) (e:=3) (op:=none) (H:=H5) (b:=H3.length) (n:=n) (m:=n) (hrow5.x hne) (by rw [List.length_map,hwk]) (by simp [one]) n5 (by simp)
    simp (disch:=omega) only [zA,zB,zC,zD,zF,zG,zH,↓reduceIte,vi,vd,hk',ul,qdw,hmk2,hk,st1,ld5,ec]
    refine hJ _ _ ⟨rfl,fun x hx=>?_,by simp;omega,bs++[H3.length],by simp [h1],?_,fun j hj=>?_,fun x hx=>?_,?_⟩
    · rw [List.getElem?_set_ne (by omega)];exact hp5 x hx
    · rw [List.getElem?_set_ne (by omega)];exact g5
    · rw [qd1]
      by_cases hjk:j<k
      · rw [if_pos (by omega)]
        have hbj:=h3 j hjk
        have hlj:=qbr hbj
        have:=h4 _ (getD_mem (d:=0) (show j<bs.length by omega))
        rw [List.getElem?_set_ne (by omega),k5 _ (by omega) hlj];exact hbj
      · have:j=k:=by omega
        subst this
        rw [if_neg (by omega),if_pos h1.symm,List.getElem?_set_self (by omega)]
    · rcases List.mem_append.1 hx with hx|hx
      · exact h4 x hx
      · rw [List.mem_singleton.1 hx];exact hlt
    · rw [List.nodup_append]
      refine⟨h5,by simp,fun a ha x hx=>?_⟩
      rw [List.mem_singleton.1 hx]
      obtain⟨j,hj,rfl⟩:=List.mem_iff_getElem.1 ha
      have:=h3 j (by omega)
      rw [List.getD_eq_getElem?_getD,List.getElem?_eq_getElem hj] at this
      have:=qbr this
      simp at this
      omega
  · rintro i H3 ⟨rfl,hp,hlt,bs,h1,h2,h3,h4,h5⟩ J
    simp (disch:=omega) only [zA,zB,zC,zD,zF,zG,zH,↓reduceIte]
    refine⟨hp,H.length,bs,rfl,⟨⟨none,by simpa using h2⟩,h1,h3,hl,?_⟩,fun x hx=>?_⟩
    · rw [List.nodup_cons];exact⟨fun hx=>by have:=h4 _ hx;omega,h5⟩
    · have hx':x=H.length∨x∈bs:=by simpa using hx
      rcases hx' with rfl|hx'
      · exact Nat.le_refl _
      · exact Nat.le_of_lt (h4 x hx')
theorem LRed.le {n:Nat} {A:List (List α)} (h:LRed n A):A.length≤n:=by
  have:=rank_null h.len
  rw [lred_self h] at this
  omega
theorem shaped_c (Q:FQ α cd p e q blk) (hq:q≤16) {v:Value} {n most:Nat} {G:List (List α)} (hv:RowR H v (evr cd G)) (hl:∀ x∈G,x.length=n) (hG:G.length≤1000) (hm:G.length≤most) (hn:n≤24) (hn0:1≤n) :
    FN Tryz.prog 83 [nv q,nv n,nv most,v] H (fun r H'=>Pre H H'∧∃ b,r=.tuple [fldv p e b e e,.bool true].toArray∧H'[b]? = some blk∧H.length≤b):=by
  refine g83_of ?_
  unfold g83
  have hX:=Pre.new H [.cells [nv q] 3 none false,.cells [nv n] 3 none false,.cells [nv 0,nv 0,.slice none 0 0] 96 none false]
  simp (disch:=omega) only [zA,zB,zC,zD,zF,zG,zH,↓reduceIte]
  refine FZ.mono (newOver_c Q hq) ?_
  rintro _ H4 ⟨hp4,b,rfl,hb4,hlb⟩
  have s6:=qc7 (H:=H4++[.cells [nv 0,nv 0,.slice none 0 0] 96 none false]) (bl:=H4.length) (x:=nv p) (y:=nv e) (z:=.slice (some ⟨b,0,none⟩) e e) (c0:=nv 0) (c1:=nv 0) (c2:=.slice none 0 0) (e:=96) (op:=none) rfl rfl rfl
  rw [qdn] at s6
  have hp6:=Pre.new H4 [.cells [nv p,nv e,.slice (some ⟨b,0,none⟩) e e] 96 none false]
  have hp46:=hp4.trans hp6
  obtain⟨H6,hH6⟩:∃ H6,H6=H4++[.cells [nv p,nv e,.slice (some ⟨b,0,none⟩) e e] 96 none false]:=⟨_,rfl⟩
  have g6:H6[H4.length]? = some (.cells [nv p,nv e,.slice (some ⟨b,0,none⟩) e e] 96 none false):=by rw [hH6];simp
  rw [←hH6] at s6 hp6 hp46
  have k0:H6[H.length]? = some (.cells [nv q] 3 none false):=hp46.get (by simp)
  have k1:H6[H.length+1]? = some (.cells [nv n] 3 none false):=hp46.get (by simp)
  have k2:H6[H.length+2]? = some (.cells [nv 0,nv 0,.slice none 0 0] 96 none false):=hp46.get (by simp)
  have hv6:=hv.pre (hX.trans hp46)
  obtain⟨vs,hvs,hvl,hvr⟩:=hv6.open
  obtain⟨vl,_,_,_⟩:=hvs.allV
  rw [hvl] at vl
  have hF:FN Tryz.prog 138 [v,.func (.func 139) #[] #[.pointer (some ⟨H.length,0,none⟩),.pointer (some ⟨H.length+1,0,none⟩)]] H6 (fun r H'=>r=.bool false∧H'=H6):=by
    refine g138_of ?_
    unfold g138
    refine FZ.mono (indexP_c (P:=fun _=>false) hvs (by omega) fun k hk=>?_) ?_
    · have hrow:=hvr k (by omega)
      refine FN.gc0 ?_
      refine g139_of ?_
      unfold g139
      simp (disch:=omega) only [zA,zB,zC,zD,zF,zG,zH,↓reduceIte,k0,k1]
      refine FZ.mono (word_c (Q.ok 0) hrow (qcd hl (by omega)) (by omega)) ?_
      rintro _ H7 ⟨rfl,hp7⟩
      simp (disch:=omega) only [zA,zB,zC,zD,zF,zG,zH,↓reduceIte]
      obtain⟨J,rfl⟩:=Keep.split (H:=H6) ⟨hp7.len,hp7⟩
      first|exact⟨rfl,rfl,J,rfl⟩|exact⟨rfl,J,rfl⟩|exact⟨J,rfl⟩|(simp [ground,scal])
    · rintro _ _ ⟨⟨rfl,_⟩|⟨k,_,_,h,_⟩,rfl⟩
      · simp (disch:=omega) only [zA,zB,zC,zD,zF,zG,zH,↓reduceIte,geq_m1]
      · cases h
  simp (disch:=omega) only [zA,zB,zC,zD,zF,zG,zH,↓reduceIte,s6,k1,hn0,hn,vl,hm,g6,xp_fn2]
  refine FZ.use hF ?_
  have s7:=qc7 (H:=H6) (bl:=H.length+2) (x:=nv p) (y:=nv e) (z:=.slice (some ⟨b,0,none⟩) e e) (c0:=nv 0) (c1:=nv 0) (c2:=.slice none 0 0) (e:=96) (op:=none) rfl rfl rfl
  have g7:(H6.set (H.length+2) (.cells [nv p,nv e,.slice (some ⟨b,0,none⟩) e e] 96 none false))[H.length+2]? = some (.cells [nv p,nv e,.slice (some ⟨b,0,none⟩) e e] 96 none false):=List.getElem?_set_self (qbr k2)
  simp (disch:=omega) only [zA,zB,zC,zD,zF,zG,zH,↓reduceIte,g6,k2,s7,g7]
  have hlb':H.length+2≠b:=by simp at hlb;omega
  exact⟨(hX.trans hp46).set (by omega) _,b,rfl,by rw [List.getElem?_set_ne hlb'];exact hp6.get hb4,by simp at hlb;omega⟩
end
end Go.Sim

namespace Go.Sim
open Go Go.Proofs
theorem equal_c {H:AH} {v w:Value} {xs ys:List Nat} (hv:Row H v (xs.map nv)) (hw:Row H w (ys.map nv)) (hx:xs.length≤100000) :
    FN Tryz.prog 87 [v,w] H (fun r H'=>r=.bool (decide (xs=ys))∧H'=H):=by
  refine g87_of ?_
  unfold g87
  obtain⟨vl,vi,vd,_⟩:=hv.all 0
  obtain⟨wl,wi,wd,_⟩:=hw.all 0
  by_cases hl:xs.length=ys.length
  · simp (disch:=omega) only [zA,zB,zC,zD,zF,zG,zH,↓reduceIte,vl,wl,hl]
    refine loopV1.ind (fun m i H'=>∃ k,i=nv k∧H'=H∧k+m=xs.length∧xs.take k=ys.take k) xs.length ⟨0,rfl,rfl,by omega,by simp⟩ ?_
    rintro m i _ ⟨k,rfl,rfl,hm,ht⟩ J hJ
    by_cases hk:k<ys.length
    · by_cases he:xs.getD k 0=ys.getD k 0
      · simp (disch:=omega) only [zA,zB,zC,zD,zF,zG,zH,↓reduceIte,vl,vi,vd,wl,wi,wd,hk,hl,he]
        exact hJ _ _ ⟨m-1,by omega,k+1,rfl,rfl,by omega,qmv 0 (by omega) hk ht he⟩
      · simp (disch:=omega) only [zA,zB,zC,zD,zF,zG,zH,↓reduceIte,vl,vi,vd,wl,wi,wd,hk,hl,he]
        rw [decide_eq_false]
        rintro rfl;exact he rfl
    · simp (disch:=omega) only [zA,zB,zC,zD,zF,zG,zH,↓reduceIte,vl,vi,vd,wl,wi,wd,hk,hl]
      rw [List.take_of_length_le (by omega),List.take_of_length_le (by omega)] at ht
      rw [decide_eq_true ht]
  · simp (disch:=omega) only [zA,zB,zC,zD,zF,zG,zH,↓reduceIte,vl,wl,hl]
    rw [decide_eq_false]
    rintro rfl;exact hl rfl
theorem equalF_c {H:AH} {v w:Value} {xss yss:List (List Nat)} (hv:RowR H v (xss.map fun l=>l.map nv)) (hw:RowR H w (yss.map fun l=>l.map nv)) (hx:xss.length≤100000) (hx2:∀ l∈xss,l.length≤100000) :
    FN Tryz.prog 84 [v,w,.func (.func 87) #[] #[]] H (fun r H'=>r=.bool (decide (xss=yss))∧H'=H):=by
  refine g84_of ?_
  unfold g84
  obtain⟨vs,hvs,hvl,hvr⟩:=hv.openN
  obtain⟨ws,hws,hwl,hwr⟩:=hw.openN
  obtain⟨vl,vi,vd,_⟩:=hvs.allV
  obtain⟨wl,wi,wd,_⟩:=hws.allV
  by_cases hl:xss.length=yss.length
  · simp (disch:=omega) only [zA,zB,zC,zD,zF,zG,zH,↓reduceIte,vl,wl,hvl,hwl,hl]
    refine loopV1.ind (fun m i H'=>∃ k,i=nv k∧H'=H∧k+m=xss.length∧xss.take k=yss.take k) xss.length ⟨0,rfl,rfl,by omega,by simp⟩ ?_
    rintro m i _ ⟨k,rfl,rfl,hm,ht⟩ J hJ
    by_cases hk:k<yss.length
    · have hk1:k<vs.length:=by omega
      have hk2:k<ws.length:=by omega
      have hk3:k<xss.length:=by omega
      simp (disch:=omega) only [zA,zB,zC,zD,zF,zG,zH,↓reduceIte,vl,vi,vd,wl,wi,wd,hk,hk1,hk2]
      have hlen:(xss.getD k []).length≤100000:=by
        rw [List.getD_eq_getElem?_getD,List.getElem?_eq_getElem hk3];exact hx2 _ (List.getElem_mem hk3)
      refine FZ.use (equal_c (hvr k hk3) (hwr k hk) hlen) ?_
      by_cases he:xss.getD k []=yss.getD k []
      · simp (disch:=omega) only [zA,zB,zC,zD,zF,zG,zH,↓reduceIte,he]
        exact hJ _ _ ⟨m-1,by omega,k+1,rfl,rfl,by omega,qmv [] hk3 hk ht he⟩
      · simp (disch:=omega) only [zA,zB,zC,zD,zF,zG,zH,↓reduceIte,he]
        rw [decide_eq_false]
        rintro rfl;exact he rfl
    · have hk1:¬k<vs.length:=by omega
      simp (disch:=omega) only [zA,zB,zC,zD,zF,zG,zH,↓reduceIte,vl,hk,hk1]
      rw [List.take_of_length_le (by omega),List.take_of_length_le (by omega)] at ht
      rw [decide_eq_true ht]
  · have hl1:¬vs.length=ws.length:=by omega
    simp (disch:=omega) only [zA,zB,zC,zD,zF,zG,zH,↓reduceIte,vl,wl,hl1]
    rw [decide_eq_false]
    rintro rfl;exact hl rfl
section
variable {α:Type} [Fl α] [DecidableEq α] {cd:α→Nat} {p e b c q:Nat} {blk:AB} {H:AH}
theorem CRed.lo {n n0 sb C:Nat} {bs:List Nat} {M:List (List α)} {H H':AH} {r:Value} (h:CRed cd n sb bs M C H H' r) (hM:M.length≤C) (hl:∀ x∈sb :: bs,n0≤x) (hw:∀ x∈M,x.length=n):Lw.RowLo n0 H' r (evr cd (qb4 M)):=by
  obtain⟨k,bs',M',rfl,hm,hk,ht,_,hsub,_⟩:=h
  obtain⟨op,ho⟩:=hm.spine
  have hle:=(qcb hw).2.2
  have hkl:k=(qb4 M).length:=by rw [←ht,List.length_take];omega
  have hbl:=hm.len
  refine⟨(bs'.map (rsl n)).take k,RowX.of_take ho (by simp;omega) (by omega),⟨by simp;omega,fun j hj=>?_⟩,?_,?_⟩
  · have hj':j<k:=by simp at hj;omega
    have hj3:j<bs'.length:=by omega
    have e1:((bs'.map (rsl n)).take k).getD j undef=rsl n (bs'.getD j 0):=by
      simp [List.getD_eq_getElem?_getD,List.getElem?_take_of_lt hj',List.getElem?_eq_getElem hj3]
    have e2:(evr cd (qb4 M)).getD j []=evs cd (M'.getD j []):=by
      rw [evr_get,←ht]
      congr 1
      simp [List.getD_eq_getElem?_getD,List.getElem?_take_of_lt hj']
    rw [e1,e2]
    exact Row.of (hm.row j (by omega)) (by rw [List.length_map,qcd hm.width (by omega)]) (Nat.le_refl _)
  · intro a l c h;cases h;exact hl _ (by simp)
  · intro x hx a l c h
    have hx':=List.mem_of_mem_take hx
    obtain⟨y,hy,rfl⟩:=List.mem_map.1 hx'
    cases h
    exact hl _ (List.mem_cons_of_mem _ (hsub y hy))
theorem CRed.pre {n sb C:Nat} {bs:List Nat} {M:List (List α)} {H0 H H':AH} {r:Value} (h:CRed cd n sb bs M C H H' r) (hp:Pre H0 H) (hl:∀ x∈sb :: bs,H0.length≤x):Pre H0 H':=by
  obtain⟨k,bs',M',_,_,_,_,hk,_,_⟩:=h
  have:=hp.len
  exact fun x hx=>(hk x (by omega) fun hm=>by have:=hl x hm;omega).trans (hp x hx)
theorem valid_c (Q:FQ α cd p e q blk) (hq:q≤16) {v:Value} {n:Nat} {A:List (List α)} (hv:RowR H v (evr cd A)) (hA:LRed n A) (hn:n≤24) (hn0:1≤n) :
    FN Tryz.prog 38 [codv q n v] H (fun r H'=>r=.bool true∧Pre H H'):=by
  refine g38_of ?_
  unfold g38
  have hle:=hA.le
  have ho:=hv.one'
  simp (disch:=omega) only [zA,zB,zC,zD,zF,zG,zH,↓reduceIte,ho]
  have hX:=Pre.new H [.cells [nv q,nv n,v] 29 none false]
  refine FZ.mono (shaped_c Q hq (most:=n) (hv.pre hX) hA.len (by omega) hle hn hn0) ?_
  rintro _ H2 ⟨hp2,b,rfl,hb2,hlb⟩
  have s4:=qc7 (H:=H2++[.cells [nv 0,nv 0,.slice none 0 0] 96 none false]) (bl:=H2.length) (x:=nv p) (y:=nv e) (z:=.slice (some ⟨b,0,none⟩) e e) (c0:=nv 0) (c1:=nv 0) (c2:=.slice none 0 0) (e:=96) (op:=none) rfl rfl rfl
  rw [qdn] at s4
  have hp24:=Pre.new H2 [.cells [nv p,nv e,.slice (some ⟨b,0,none⟩) e e] 96 none false]
  have hp4:=hp2.trans hp24
  have hb4:=hp24.get hb2
  obtain⟨H4,hH4⟩:∃ H4,H4=H2++[.cells [nv p,nv e,.slice (some ⟨b,0,none⟩) e e] 96 none false]:=⟨_,rfl⟩
  have gx:H4[H2.length]? = some (.cells [nv p,nv e,.slice (some ⟨b,0,none⟩) e e] 96 none false):=by rw [hH4];simp
  have g0:H4[H.length]? = some (.cells [nv q,nv n,v] 29 none false):=by rw [hH4];exact hp4.get (by simp)
  rw [←hH4] at s4 hp4 hb4 hp24
  have hX4:=hX.trans hp4
  simp (disch:=omega) only [zA,zB,zC,zD,zF,zG,zH,↓reduceIte,s4,g0,gx]
  refine FZ.mono (copied_c (hv.pre hX4) hA.len (by omega) (by omega) hn0) ?_
  rintro _ H5 ⟨hp5,sb,bs,rfl,hmt,hlo⟩
  have g05:=hp5.get g0
  have gx5:=hp5.get gx
  have hb5:=hp5.get hb4
  simp (disch:=omega) only [zA,zB,zC,zD,zF,zG,zH,↓reduceIte,g05,gx5]
  have hbn:b∉sb :: bs:=fun h=>by have:=hlo b h;have:=qbr hb4;omega
  refine FZ.mono (creduce_c (Q.ok b) hb5 hbn hmt (by omega) (by omega) rfl (Nat.le_refl _)) ?_
  rintro r6 H6 hc6
  have hp6:=hc6.pre hp5 hlo
  have hr6:=hc6.lo (Nat.le_refl _) hlo hA.len
  rw [lred_self hA] at hr6
  have g06:=hp6.get g0
  simp (disch:=omega) only [zA,zB,zC,zD,zF,zG,zH,Nat.reduceEqDiff,Nat.reduceLT,Nat.reduceLeDiff,↓reduceIte,g06]
  have hv6:=hv.pre (hX4.trans hp6)
  rw [evr_nv] at hv6 hr6
  have hlen:∀ l∈A.map (fun l=>l.map cd),l.length≤100000:=by
    intro l hl
    obtain⟨x,hx,rfl⟩:=List.mem_map.1 hl
    rw [List.length_map,hA.len x hx];omega
  refine FZ.use (equalF_c hv6 hr6.rowR (by rw [List.length_map];omega) hlen) ?_
  simp (disch:=omega) only [zA,zB,zC,zD,zF,zG,zH,↓reduceIte]
  exact hX4.trans hp6
end
end Go.Sim

namespace Go.Sim
open Go Go.Proofs
section
variable {α:Type} [Fl α] [DecidableEq α] {cd:α→Nat} {p e b c q:Nat} {blk:AB} {H:AH}
theorem lplus_more {xs ys:List α} {a:α}:qfq xs (ys.map (Fl.mul a))=qcg xs a ys:=by
  unfold qfq qcg
  rw [List.zipWith_map_right]
theorem qkx {c d:Nat→α} {R:Nat→Vc α}:∀ m,(∀ i,i<m→c i=d i)→comb c R m=comb d R m
  | 0,_=>rfl
  | k+1,h=>by rw [comb,comb,qkx k fun i hi=>h i (by omega),h k (by omega)]
end
end Go.Sim
