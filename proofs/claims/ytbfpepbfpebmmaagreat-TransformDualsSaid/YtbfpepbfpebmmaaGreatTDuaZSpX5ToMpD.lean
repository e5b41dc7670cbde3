/- Part of the proof: ZSpX5, MoW, MoZ, MpA, MpB, MpD. -/
import Derived.Test.YtbfpepbfpebmmaaGreatTDuaMoAToZSpX3
set_option linter.all false
namespace Go.Sim
section
variable {α:Type} [Fl α] [DecidableEq α]
open Fl
theorem qng {β:Type} (p:β→Bool):∀ l:List β,l.length=(l.filter p).length+(l.filter fun x=>!p x).length
  | []=>rfl
  | x :: l=>by
    have:=qng p l
    cases h:p x<;>simp [List.filter_cons,h]<;>omega
def qg1 (n:Nat) (P:List Nat):List Nat:=(List.range n).filter fun c=>decide (c∉P)
def qc7 (n:Nat) (M:List (List α)) (P:List Nat) (c:Nat):Nat→List α
  | 0=>lunit n c
  | k+1=>(qc7 n M P c k).set (P.getD k 0) (neg (ent M k c))
def qd2 (n:Nat) (M:List (List α)) (P:List Nat):List (List α):=(qg1 n P).map fun c=>qc7 n M P c P.length
theorem qfc (n:Nat) (M:List (List α)) (P:List Nat) (c:Nat):∀ k,(qc7 n M P c k).length=n
  | 0=>by simp [qc7,lunit]
  | k+1=>by simp [qc7,qfc n M P c k]
theorem qk8 (n:Nat) (M:List (List α)) (P:List Nat):∀ x∈qd2 n M P,x.length=n:=by
  intro x hx
  obtain⟨c,_,rfl⟩:=List.mem_map.1 hx
  exact qfc _ _ _ _ _
theorem toV_set {xs:List α} {p:Nat} {a:α} (hp:p<xs.length):toV (xs.set p a)=fun j=>if j=p then a else toV xs j:=by
  funext j
  exact getD_set hp
theorem toV_unit {n c:Nat} (hc:c<n):toV (lunit (α:=α) n c)=vun c:=by
  unfold lunit
  rw [toV_set (by simpa using hc),toV_zero]
  rfl
theorem mem_getD {P:List Nat} {c:Nat}:c∈P↔∃ i,i<P.length∧P.getD i 0=c:=by
  rw [List.mem_iff_getElem]
  exact⟨fun ⟨i,hi,h⟩=>⟨i,hi,by rw [List.getD_eq_getElem?_getD,List.getElem?_eq_getElem hi];exact h⟩,fun ⟨i,hi,h⟩=>⟨i,hi,by rw [List.getD_eq_getElem?_getD,List.getElem?_eq_getElem hi] at h;exact h⟩⟩
section
variable {n:Nat} {M:List (List α)} {P:List Nat}
theorem qk9 (h:RedTo n n M P) {c:Nat} (hc:c<n) (hcP:c∉P):∀ k,k≤P.length→toV (qc7 n M P c k)=nuV (rowV M) (fun i=>P.getD i 0) k c
  | 0,_=>by rw [qc7,toV_unit hc,nuV,comb,qfn]
  | k + 1,hk=>by
    have hp:=h.lt k (by omega)
    rw [qc7,toV_set (by rw [qfc];exact hp),qk9 h hc hcP k (by omega)]
    funext j
    show _=add (vun c j) (add (comb _ _ k j) (mul (neg (rowV M k c)) (vun (P.getD k 0) j)))
    rw [←add_assoc]
    by_cases hj:j=P.getD k 0
    · subst hj
      have h0:nuV (rowV M) (fun i=>P.getD i 0) k c (P.getD k 0)=vun c (P.getD k 0):=qqq fun i hi=>by
        have:=h.inc i k hi (by omega);show P.getD i 0≠P.getD k 0;omega
      have h1:vun c (P.getD k 0)=(zero:α):=if_neg fun e=>hcP (mem_getD.2 ⟨k,by omega,e⟩)
      have h2:add (vun c (P.getD k 0)) (comb (fun i=>neg (rowV M i c)) (fun i=>vun (P.getD i 0)) k (P.getD k 0))=(zero:α):=by rw [←h1];exact h0
      rw [h2,if_pos rfl,vun,if_pos rfl,mul_one,Fl.zero_add]
      rfl
    · rw [if_neg hj,show vun (P.getD k 0) j=(zero:α) from if_neg hj,Fl.mul_zero,add_zero]
      rfl
theorem frees_mem {c:Nat}:c∈qg1 n P↔c<n∧c∉P:=by simp [qg1]
theorem qrh:(qg1 n P).Nodup:=List.Pairwise.filter _ List.nodup_range
theorem lnulls_span (h:RedTo n n M P) (u:Vc α):LSpan (qd2 n M P) u↔Nul n (LSpan M) u:=by
  obtain⟨_,hd⟩:=h.done
  have hlen:=h.len
  have hM:∀ u,Span P.length (rowV M) u↔LSpan M u:=fun u=>by
    rw [←hd u]
    have hl:(M.take P.length).length=P.length:=by rw [List.length_take];omega
    have e:∀ i,i<P.length→rowV (M.take P.length) i=rowV M i:=fun i hi=>by
      unfold rowV
      rw [show (M.take P.length).getD i []=M.getD i [] by simp only [List.getD_eq_getElem?_getD,List.getElem?_take_of_lt hi]]
    unfold LSpan
    rw [hl]
    exact⟨Span.mono fun i hi=>by rw [←e i hi];exact Span.row hi,Span.mono fun i hi=>by rw [e i hi];exact Span.row hi⟩
  rw [Nul.cong (fun w=>(hM w).symm)]
  have hfree:∀ c,c∈qg1 n P↔c<n∧∀ i,i<P.length→P.getD i 0≠c:=fun c=>by
    rw [frees_mem,mem_getD]
    exact⟨fun ⟨a,b⟩=>⟨a,fun i hi e=>b ⟨i,hi,e⟩⟩,fun ⟨a,b⟩=>⟨a,fun ⟨i,hi,e⟩=>b i hi e⟩⟩
  refine nu_span h.red h.lt (fun i j hi hj=>?_) qrh hfree (by simp [qd2]) (fun k hk=>?_) u
  · exact qp2 h.width (by omega) hj
  · have h1:(qg1 n P).getD k 0∈qg1 n P:=getD_mem hk
    obtain⟨h2,h3⟩:=frees_mem.1 h1
    rw [←qk9 h h2 h3 _ (Nat.le_refl _)]
    unfold rowV qd2
    congr 1
    simp [List.getD_eq_getElem?_getD,List.getElem?_eq_getElem hk]
theorem qkd (h:RedTo n n M P) {rows:List (List α)} (hl:∀ x∈rows,x.length=n) (hs:∀ u,LSpan M u↔LSpan rows u):qbz (qd2 n M P)=qcf n rows:=by
  obtain⟨h1,h2,_⟩:=qb5 (qk8 n M P)
  obtain⟨h3,h4⟩:=qgz hl
  refine h1.unique h3 fun u=>?_
  rw [h2,lnulls_span h,h4,Nul.cong hs]
theorem frees_length (h:RedTo n n M P):(qg1 n P).length+P.length=n:=by
  have hN:P.Nodup:=by
    rw [List.Nodup,List.pairwise_iff_getElem]
    intro i j hi hj hij
    have:=h.inc i j hij hj
    simp only [List.getD_eq_getElem?_getD,List.getElem?_eq_getElem hi,List.getElem?_eq_getElem hj,Option.getD_some] at this
    omega
  have h1:=qng (fun c=>decide (c∉P)) (List.range n)
  have h2:((List.range n).filter (fun c=>!decide (c∉P))).length=P.length:=by
    refine Nat.le_antisymm (qgw _ _ (List.Pairwise.filter _ List.nodup_range) fun x hx=>?_) (qgw _ _ hN fun x hx=>?_)
    · simpa using (List.mem_filter.1 hx).2
    · refine List.mem_filter.2 ⟨?_,by simpa using hx⟩
      obtain⟨i,hi,rfl⟩:=mem_getD.1 hx
      exact List.mem_range.2 (h.lt i hi)
  rw [List.length_range,h2] at h1
  exact h1.symm
theorem lnulls_rank (h:RedTo n n M P):(qbz (qd2 n M P)).length=(qg1 n P).length:=by
  have hlen:(qd2 n M P).length=(qg1 n P).length:=by simp [qd2]
  rw [lreduce_indep (qk8 n M P),hlen]
  intro k hk hs
  rw [hlen] at hk
  have row:∀ i,i<(qg1 n P).length→rowV (qd2 n M P) i ((qg1 n P).getD k 0)=vun ((qg1 n P).getD i 0) ((qg1 n P).getD k 0):=by
    intro i hi
    obtain⟨h2,h3⟩:=frees_mem.1 (getD_mem (l:=qg1 n P) (d:=0) hi)
    obtain⟨_,h5⟩:=frees_mem.1 (getD_mem (l:=qg1 n P) (d:=0) hk)
    have e:rowV (qd2 n M P) i=toV (qc7 n M P ((qg1 n P).getD i 0) P.length):=by
      unfold rowV qd2
      congr 1
      simp [List.getD_eq_getElem?_getD,List.getElem?_eq_getElem hi]
    rw [e,qk9 h h2 h3 _ (Nat.le_refl _)]
    exact qqq fun l hl e=>h5 (mem_getD.2 ⟨l,hl,e⟩)
  have h1:toV ((qd2 n M P).getD k []) ((qg1 n P).getD k 0)=zero:=by
    refine hs.sub (S:=fun u=>u ((qg1 n P).getD k 0)=zero) rfl (fun u v hu hv=>?_) (fun c u hu=>?_) (fun x hx=>?_)
    · show add (u _) (v _)=zero;rw [hu,hv,add_zero]
    · show mul c (u _)=zero;rw [hu,Fl.mul_zero]
    · obtain⟨i,hi,rfl⟩:=List.mem_iff_getElem.1 hx
      rw [List.length_take] at hi
      rw [List.getElem_take,←qd6 (show i<(qd2 n M P).length by omega),row i (by omega)]
      exact if_neg fun e=>qgh (qrh (n:=n) (P:=P)) hk (show i<_ by omega) (by omega) e
  have h2:=row k hk
  rw [vun,if_pos rfl] at h2
  exact one_ne (h2.symm.trans h1)
end
theorem redto_exists {n:Nat} {A:List (List α)} (hl:∀ x∈A,x.length=n):∀ w,w≤n→∃ M P,RedTo n w M P∧M.length=A.length∧∀ u,LSpan M u↔LSpan A u:=by
  intro w
  induction w with
  | zero=>intro _;exact⟨A,[],RedTo.start hl,rfl,fun _=>Iff.rfl⟩
  | succ w ih =>
    intro hw
    obtain⟨M,P,h,h2,h3⟩:=ih (by omega)
    by_cases hp:∃ i,P.length≤i∧i<M.length∧ent M i w≠zero
    · obtain⟨i,h4,h5,h6⟩:=hp
      exact⟨_,_,h.step h5 h4 h6,by rw [qcb,qdm,h2],fun u=>(qp4 h.width (by omega) h5 h6 u).trans (h3 u)⟩
    · exact⟨M,P,h.skip fun k hk hk2=>Classical.byContradiction fun hne=>hp ⟨k,hk,hk2,hne⟩,h2,h3⟩
theorem rank_null {n:Nat} {A:List (List α)} (hl:∀ x∈A,x.length=n):(qcf n A).length+(qbz A).length=n:=by
  obtain⟨M,P,h,_,h3⟩:=redto_exists hl n (Nat.le_refl n)
  rw [←qkd h hl h3,lnulls_rank h,←reduced_eq hl h h3,List.length_take,Nat.min_eq_left h.len]
  exact frees_length h
end
end Go.Sim

namespace Go.Sim
open Fl
section
variable {α:Type} [Fl α] [DecidableEq α]
theorem Cd.dual {n:Nat} {G:List (List α)} {S:Vc α→Prop} (h:Cd n G S):Cd n (qcf n G) (Nul n S):=by
  obtain⟨h1,h2⟩:=qgz (n:=n) h.red.len
  exact⟨h1,fun u=>(h2 u).trans (Nul.cong h.span u)⟩
theorem dual_dual {n:Nat} {G:List (List α)} (h:LRed n G):qcf n (qcf n G)=G:=(kernel_kernel h.len).trans (qkc h)
theorem dual_red {n:Nat} {G:List (List α)} (h:LRed n G):LRed n (qcf n G):=(Cd.self h).dual.red
def addL (f:Nat→α) (l:List Nat):α:=l.foldr (fun j a=>Fl.add (f j) a) Fl.zero
end
end Go.Sim

namespace Go.Sim
open Go Go.Proofs
theorem xnew_makeS {a:Nat} (h:24*a≤281474976710656) (h2:a≤9223372036854775807):xnew (.make (.slice none 0 0) 1 24 31) [nv a,nv a]=some (List.replicate a (.slice none 0 0),31,fun b=>.slice (some ⟨b,0,none⟩) a a):=by
  simp only [xnew]
  rw [if_pos ⟨by omega,by omega,by omega,by omega⟩]
  simp only [Int.toNat_natCast,Nat.mul_one]
  congr 2
  unfold qqz madeCells
  refine List.ext_getElem (by simp) fun i h1 h2=>?_
  simp [Value.cells,Nat.mod_one]
theorem indexI_c {H:AH} {v:Value} {vs:List Value} {F:Nat} {cap:Array Value} {P:Nat→Bool} (hv:Row H v vs) (hl:vs.length≤1000) (hF:∀ k,k<vs.length→FN Tryz.prog F (vs.getD k undef :: cap.toList) H (fun r H'=>r=.bool (P k)∧H'=H)) :
    FN Tryz.prog 148 [v,.func (.func F) #[] cap] H (fun r H'=>((r=.int .i64 (-1)∧∀ k,k<vs.length→P k=false)∨∃ k,r=nv k∧k<vs.length∧P k=true∧∀ j,j<k→P j=false)∧H'=H):=by
  refine g148_of ?_
  unfold g148
  obtain⟨vl,vi,vd,_⟩:=hv.allV
  simp (disch:=omega) only [zA,zB,zC,zD,zF,zG,zH,↓reduceIte,vl]
  refine loopV1.nat vs.length (fun k i H'=>i=nv k∧H'=H∧∀ j,j<k→P j=false) ⟨rfl,rfl,fun j h=>absurd h (Nat.not_lt_zero _)⟩ ?_ ?_
  · rintro k i H hk ⟨rfl,rfl,hin⟩ J hJ
    simp (disch:=omega) only [zA,zB,zC,zD,zF,zG,zH,↓reduceIte,vi,vd,hk]
    refine FZ.use (hF k hk) ?_
    cases h:P k with
    | false =>
      simp (disch:=omega) only [zA,zB,zC,zD,zF,zG,zH,↓reduceIte]
      refine hJ _ _ ⟨rfl,rfl,fun j hj=>?_⟩
      by_cases hjk:j=k
      · rw [hjk];exact h
      · exact hin j (by omega)
    | true =>
      simp (disch:=omega) only [zA,zB,zC,zD,zF,zG,zH,↓reduceIte]
      exact .inr ⟨k,rfl,hk,h,hin⟩
  · rintro i H ⟨rfl,rfl,hin⟩ J
    simp (disch:=omega) only [zA,zB,zC,zD,zF,zG,zH,↓reduceIte]
    exact .inl hin
theorem geq_m1:xbin .geq 0 (.int .i64 (-1)) (nv 0)=some (.bool false):=by rw [qn2,decide_eq_false];omega
section
variable {α:Type} [Fl α] [DecidableEq α] {cd:α→Nat} {p e b c q:Nat} {blk:AB} {H:AH}
theorem word_c (F:FOK α cd p e b c q blk) {v:Value} {xs:List α} {n:Nat} (hv:Row H v (evs cd xs)) (hl:xs.length=n) (hn:n≤1000) :
    FN Tryz.prog 92 [nv q,nv n,v] H (fun r H'=>r=.bool true∧Pre H H'):=by
  refine g92_of ?_
  unfold g92
  have hp:=Pre.new H [.cells [nv q] 3 none false]
  have hv':=hv.pre hp
  obtain⟨vl,_,_,_⟩:=hv.all Fl.zero
  have hg:(H++[.cells [nv q] 3 none false])[H.length]? = some (.cells [nv q] 3 none false):=by simp
  simp (disch:=omega) only [zA,zB,zC,zD,zF,zG,zH,↓reduceIte,vl,hl,xp_fn1]
  have hF:FN Tryz.prog 146 [v,.func (.func 147) #[] #[.pointer (some ⟨H.length,0,none⟩)]] (H++[.cells [nv q] 3 none false]) (fun r H'=>r=.bool false∧H'=H++[.cells [nv q] 3 none false]):=by
    refine g146_of ?_
    unfold g146
    refine FZ.mono (indexI_c (P:=fun _=>false) hv' (by simp;omega) fun k hk=>?_) ?_
    · have hk':k<xs.length:=by simpa using hk
      have e1:(evs cd xs).getD k undef=nv (cd (xs.getD k Fl.zero)):=by
        simp [evs,List.getD_eq_getElem?_getD,List.getElem?_eq_getElem hk']
      rw [e1]
      refine g147_of ?_
      unfold g147
      have hlt:=F.lt (xs.getD k Fl.zero)
      have hnle:¬q≤cd (xs.getD k Fl.zero):=by omega
      simp (disch:=omega) only [zA,zB,zC,zD,zF,zG,zH,↓reduceIte,hg,hnle]
    · rintro _ _ ⟨⟨rfl,_⟩|⟨k,_,_,h,_⟩,rfl⟩
      · simp (disch:=omega) only [zA,zB,zC,zD,zF,zG,zH,↓reduceIte,geq_m1]
      · cases h
  refine FZ.use hF ?_
  simp (disch:=omega) only [zA,zB,zC,zD,zF,zG,zH,↓reduceIte]
  exact hp
theorem qqr (Q:FQ α cd p e q blk) (hq:q≤16):FN Tryz.prog 94 [nv q] H (fun r H'=>Pre H H'∧∃ b,r=.tuple [fldv p e b e e,.bool true].toArray∧H'[b]? = some blk∧H.length≤b):=by
  refine g94_of ?_
  unfold g94
  simp (disch:=omega) only [zA,zB,zC,zD,zF,zG,zH,↓reduceIte]
  refine FZ.use (Q.make _) ?_
  have s3:=qck (H:=H++[.cells [nv 0,nv 0,.slice none 0 0] 96 none false,blk,.cells [nv 0,nv 0,.slice none 0 0] 76 none false]) (bl:=H.length+2) (x:=nv p) (y:=nv e) (z:=.slice (some ⟨H.length+1,0,none⟩) e e) (c0:=nv 0) (c1:=nv 0) (c2:=.slice none 0 0) (e:=76) (op:=none) rfl rfl rfl
  have e3:(H++[AB.cells [nv 0,nv 0,.slice none 0 0] 96 none false,blk,AB.cells [nv 0,nv 0,.slice none 0 0] 76 none false]).set (H.length+2) (.cells [nv p,nv e,.slice (some ⟨H.length+1,0,none⟩) e e] 76 none false)=H++[AB.cells [nv 0,nv 0,.slice none 0 0] 96 none false,blk,fbx p e (H.length+1) e]:=by
    rw [List.set_append_right _ _ (by omega)];simp
  rw [e3] at s3
  have s4:=qck (H:=H++[.cells [nv 0,nv 0,.slice none 0 0] 96 none false,blk,fbx p e (H.length+1) e]) (bl:=H.length) (x:=nv p) (y:=nv e) (z:=.slice (some ⟨H.length+1,0,none⟩) e e) (c0:=nv 0) (c1:=nv 0) (c2:=.slice none 0 0) (e:=96) (op:=none) rfl rfl rfl
  have e4:(H++[AB.cells [nv 0,nv 0,.slice none 0 0] 96 none false,blk,fbx p e (H.length+1) e]).set H.length (.cells [nv p,nv e,.slice (some ⟨H.length+1,0,none⟩) e e] 96 none false)=H++[AB.cells [nv p,nv e,.slice (some ⟨H.length+1,0,none⟩) e e] 96 none false,blk,fbx p e (H.length+1) e]:=by
    rw [List.set_append_right _ _ (by omega)];simp
  rw [e4] at s4
  have f3:qb3 [nv 0,nv 0,.slice none 0 0] [(0,3)] [fldv p e (H.length+1) e e]=some [nv p,nv e,.slice (some ⟨H.length+1,0,none⟩) e e]:=rfl
  simp (disch:=omega) only [zA,zB,zC,zD,zF,zG,zH,↓reduceIte,s3,f3,hq,s4]
  exact⟨Pre.new _ _,H.length+1,rfl,by simp,by omega⟩
theorem copied_c {v:Value} {n:Nat} {M:List (List α)} (hv:RowR H v (evr cd M)) (hl:∀ x∈M,x.length=n) (hM:M.length≤1000) (hn:n≤1000) (hn0:0<n) :
    FN Tryz.prog 86 [v] H (fun r H'=>Pre H H'∧∃ sb bs,r=.slice (some ⟨sb,0,none⟩) M.length M.length∧Mt cd n sb bs H' M∧∀ x∈sb :: bs,H.length≤x):=by
  refine g86_of ?_
  unfold g86
  obtain⟨vs,hvs,hvl,hvr⟩:=hv.open
  obtain⟨vl,_,_,_⟩:=hvs.allV
  rw [hvl] at vl
  have hmk:24*M.length≤281474976710656:=by omega
  simp (disch:=omega) only [zA,zB,zC,zD,zF,zG,zH,↓reduceIte,vl,xnew_makeS,hmk]
  refine loopV1.nat M.length (fun k i H'=>i=nv k∧Pre H H'∧H.length<H'.length∧∃ bs,bs.length=k∧H'[H.length]? = some (.cells (bs.map (rsl n)++List.replicate (M.length-k) (.slice none 0 0)) 31 none false)∧(∀ j,j<k→H'[bs.getD j 0]? = some (.cells (evs cd (M.getD j [])) 3 none false))∧(∀ x∈bs,H.length<x)∧bs.Nodup)
    ⟨rfl,Pre.new _ _,by simp,[],rfl,by simp,fun j hj=>by omega,by simp,List.nodup_nil⟩ ?_ ?_
  · rintro k i H3 hk ⟨rfl,hp,hlt,bs,h1,h2,h3,h4,h5⟩ J hJ
    obtain⟨_,vi,vd,_⟩:=(hvs.pre hp).allV
    have hk':k<vs.length:=by omega
    have hrow:=(hvr k hk).pre hp
    have hwk:=qb7 hl hk
    have ul:=hrow.lenM
    rw [hwk] at ul
    have hmk2:8*n≤281474976710656:=by omega
    have hne:evs cd (M.getD k [])≠[]:=fun h=>by have h2:=congrArg List.length h;rw [List.length_map,hwk] at h2;simp at h2;omega
    have hsp:(H3++[.cells ((List.replicate n 0).map nv) 3 none false])[H.length]? = _:=qjm h2 _
    have st1:=st_cell (v:=rsl n H3.length) hsp (k:=k) (by simp;omega) rfl rfl
    have hset:(bs.map (rsl n)++List.replicate (M.length-k) (Value.slice none 0 0)).set k (rsl n H3.length)=(bs++[H3.length]).map (rsl n)++List.replicate (M.length-(k+1)) (.slice none 0 0):=by
      have e1:M.length-k=(M.length-(k+1))+1:=by omega
      rw [List.set_append_right _ _ (by simp;omega),e1,List.replicate_succ]
      simp [h1]
    rw [hset] at st1
    obtain⟨H5,hH5⟩:∃ H5,H5=(H3++[AB.cells ((List.replicate n 0).map nv) 3 none false]).set H.length (AB.cells ((bs++[H3.length]).map (rsl n)++List.replicate (M.length-(k+1)) (Value.slice none 0 0)) 31 none false):=⟨_,rfl⟩
    rw [←hH5] at st1
    have g5:H5[H.length]? = some (.cells ((bs++[H3.length]).map (rsl n)++List.replicate (M.length-(k+1)) (.slice none 0 0)) 31 none false):=by rw [hH5];exact List.getElem?_set_self (qbs hsp)
    have k5:∀ x,x≠H.length→x<H3.length→H5[x]? = H3[x]?:=fun x hx hx2=>by rw [hH5,List.getElem?_set_ne (Ne.symm hx),List.getElem?_append_left hx2]
    have n5:H5[H3.length]? = some (.cells ((List.replicate n 0).map nv) 3 none false):=by rw [hH5,List.getElem?_set_ne (by omega)];simp
    have l5:H5.length=H3.length+1:=by rw [hH5];simp
    have ld5:qbh none H5 [.pointer (some ⟨H.length,k,none⟩)]=some (rsl n H3.length):=by
      rw [qjt g5]
      simp [qdj,List.getElem?_append,h1]
    have hp5:Pre H H5:=fun x hx=>(k5 x (by omega) (by omega)).trans (hp x hx)
    have hrow5:=(hvr k hk).pre hp5
    have ec:=cpy_row (cc:=(List.replicate n 0).map nv) (e:=3) (op:=none) (H:=H5) (b:=H3.length) (n:=n) (m:=n) (hrow5.x hne) (by rw [List.length_map,hwk]) (by simp [one]) n5 (by simp)
    simp (disch:=omega) only [zA,zB,zC,zD,zF,zG,zH,↓reduceIte,vi,vd,hk',ul,qds,hmk2,hk,st1,ld5,ec]
    refine hJ _ _ ⟨rfl,fun x hx=>?_,by simp;omega,bs++[H3.length],by simp [h1],?_,fun j hj=>?_,fun x hx=>?_,?_⟩
    · rw [List.getElem?_set_ne (by omega)];exact hp5 x hx
    · rw [List.getElem?_set_ne (by omega)];exact g5
    · rw [qdn]
      by_cases hjk:j<k
      · rw [if_pos (by omega)]
        have hbj:=h3 j hjk
        have hlj:=qbs hbj
        have:=h4 _ (getD_mem (d:=0) (show j<bs.length by omega))
        rw [List.getElem?_set_ne (by omega),k5 _ (by omega) hlj];exact hbj
      · have:j=k:=by omega
        subst this
        rw [if_neg (by omega),if_pos h1.symm,List.getElem?_set_self (by omega)]
    · rcases List.mem_append.1 hx with hx|hx
      · exact h4 x hx
      · rw [List.mem_singleton.1 hx];exact hlt
    · rw [List.nodup_append]
      refine⟨h5,by simp,fun a ha x hx=>?_⟩
      rw [List.mem_singleton.1 hx]
      obtain⟨j,hj,rfl⟩:=List.mem_iff_getElem.1 ha
      have:=h3 j (by omega)
      rw [List.getD_eq_getElem?_getD,List.getElem?_eq_getElem hj] at this
      have:=qbs this
      simp at this
      omega
  · rintro i H3 ⟨rfl,hp,hlt,bs,h1,h2,h3,h4,h5⟩ J
    simp (disch:=omega) only [zA,zB,zC,zD,zF,zG,zH,↓reduceIte]
    refine⟨hp,H.length,bs,rfl,⟨⟨none,by simpa using h2⟩,h1,h3,hl,?_⟩,fun x hx=>?_⟩
    · rw [List.nodup_cons];exact⟨fun hx=>by have:=h4 _ hx;omega,h5⟩
    · have hx':x=H.length∨x∈bs:=by simpa using hx
      rcases hx' with rfl|hx'
      · exact Nat.le_refl _
      · exact Nat.le_of_lt (h4 x hx')
theorem LRed.le {n:Nat} {A:List (List α)} (h:LRed n A):A.length≤n:=by
  have:=rank_null h.len
  rw [qkc h] at this
  omega
theorem shaped_c (Q:FQ α cd p e q blk) (hq:q≤16) {v:Value} {n most:Nat} {G:List (List α)} (hv:RowR H v (evr cd G)) (hl:∀ x∈G,x.length=n) (hG:G.length≤1000) (hm:G.length≤most) (hn:n≤24) (hn0:1≤n) :
    FN Tryz.prog 83 [nv q,nv n,nv most,v] H (fun r H'=>Pre H H'∧∃ b,r=.tuple [fldv p e b e e,.bool true].toArray∧H'[b]? = some blk∧H.length≤b):=by
  refine g83_of ?_
  unfold g83
  have hX:=Pre.new H [.cells [nv q] 3 none false,.cells [nv n] 3 none false,.cells [nv 0,nv 0,.slice none 0 0] 96 none false]
  simp (disch:=omega) only [zA,zB,zC,zD,zF,zG,zH,↓reduceIte]
  refine FZ.mono (qqr Q hq) ?_
  rintro _ H4 ⟨hp4,b,rfl,hb4,hlb⟩
  have s6:=qck (H:=H4++[.cells [nv 0,nv 0,.slice none 0 0] 96 none false]) (bl:=H4.length) (x:=nv p) (y:=nv e) (z:=.slice (some ⟨b,0,none⟩) e e) (c0:=nv 0) (c1:=nv 0) (c2:=.slice none 0 0) (e:=96) (op:=none) rfl rfl rfl
  rw [qc9] at s6
  have hp6:=Pre.new H4 [.cells [nv p,nv e,.slice (some ⟨b,0,none⟩) e e] 96 none false]
  have hp46:=hp4.trans hp6
  obtain⟨H6,hH6⟩:∃ H6,H6=H4++[.cells [nv p,nv e,.slice (some ⟨b,0,none⟩) e e] 96 none false]:=⟨_,rfl⟩
  have g6:H6[H4.length]? = some (.cells [nv p,nv e,.slice (some ⟨b,0,none⟩) e e] 96 none false):=by rw [hH6];simp
  rw [←hH6] at s6 hp6 hp46
  have k0:H6[H.length]? = some (.cells [nv q] 3 none false):=hp46.get (by simp)
  have k1:H6[H.length+1]? = some (.cells [nv n] 3 none false):=hp46.get (by simp)
  have k2:H6[H.length+2]? = some (.cells [nv 0,nv 0,.slice none 0 0] 96 none false):=hp46.get (by simp)
  have hv6:=hv.pre (hX.trans hp46)
  obtain⟨vs,hvs,hvl,hvr⟩:=hv6.open
  obtain⟨vl,_,_,_⟩:=hvs.allV
  rw [hvl] at vl
  have hF:FN Tryz.prog 138 [v,.func (.func 139) #[] #[.pointer (some ⟨H.length,0,none⟩),.pointer (some ⟨H.length+1,0,none⟩)]] H6 (fun r H'=>r=.bool false∧H'=H6):=by
    refine g138_of ?_
    unfold g138
    refine FZ.mono (indexP_c (P:=fun _=>false) hvs (by omega) fun k hk=>?_) ?_
    · have hrow:=hvr k (by omega)
      refine FN.gc0 ?_
      refine g139_of ?_
      unfold g139
      simp (disch:=omega) only [zA,zB,zC,zD,zF,zG,zH,↓reduceIte,k0,k1]
      refine FZ.mono (word_c (Q.ok 0) hrow (qb7 hl (by omega)) (by omega)) ?_
      rintro _ H7 ⟨rfl,hp7⟩
      simp (disch:=omega) only [zA,zB,zC,zD,zF,zG,zH,↓reduceIte]
      obtain⟨J,rfl⟩:=Keep.split (H:=H6) ⟨hp7.len,hp7⟩
      first|exact⟨rfl,rfl,J,rfl⟩|exact⟨rfl,J,rfl⟩|exact⟨J,rfl⟩|(simp [ground,scal])
    · rintro _ _ ⟨⟨rfl,_⟩|⟨k,_,_,h,_⟩,rfl⟩
      · simp (disch:=omega) only [zA,zB,zC,zD,zF,zG,zH,↓reduceIte,geq_m1]
      · cases h
  simp (disch:=omega) only [zA,zB,zC,zD,zF,zG,zH,↓reduceIte,s6,k1,hn0,hn,vl,hm,g6,xp_fn2]
  refine FZ.use hF ?_
  have s7:=qck (H:=H6) (bl:=H.length+2) (x:=nv p) (y:=nv e) (z:=.slice (some ⟨b,0,none⟩) e e) (c0:=nv 0) (c1:=nv 0) (c2:=.slice none 0 0) (e:=96) (op:=none) rfl rfl rfl
  have g7:(H6.set (H.length+2) (.cells [nv p,nv e,.slice (some ⟨b,0,none⟩) e e] 96 none false))[H.length+2]? = some (.cells [nv p,nv e,.slice (some ⟨b,0,none⟩) e e] 96 none false):=List.getElem?_set_self (qbs k2)
  simp (disch:=omega) only [zA,zB,zC,zD,zF,zG,zH,↓reduceIte,g6,k2,s7,g7]
  have hlb':H.length+2≠b:=by simp at hlb;omega
  exact⟨(hX.trans hp46).set (by omega) _,b,rfl,by rw [List.getElem?_set_ne hlb'];exact hp6.get hb4,by simp at hlb;omega⟩
end
end Go.Sim

namespace Go.Sim
open Go Go.Proofs
theorem equal_c {H:AH} {v w:Value} {xs ys:List Nat} (hv:Row H v (xs.map nv)) (hw:Row H w (ys.map nv)) (hx:xs.length≤100000) :
    FN Tryz.prog 87 [v,w] H (fun r H'=>r=.bool (decide (xs=ys))∧H'=H):=by
  refine g87_of ?_
  unfold g87
  obtain⟨vl,vi,vd,_⟩:=hv.all 0
  obtain⟨wl,wi,wd,_⟩:=hw.all 0
  by_cases hl:xs.length=ys.length
  · simp (disch:=omega) only [zA,zB,zC,zD,zF,zG,zH,↓reduceIte,vl,wl,hl]
    refine loopV1.ind (fun m i H'=>∃ k,i=nv k∧H'=H∧k+m=xs.length∧xs.take k=ys.take k) xs.length ⟨0,rfl,rfl,by omega,by simp⟩ ?_
    rintro m i _ ⟨k,rfl,rfl,hm,ht⟩ J hJ
    by_cases hk:k<ys.length
    · by_cases he:xs.getD k 0=ys.getD k 0
      · simp (disch:=omega) only [zA,zB,zC,zD,zF,zG,zH,↓reduceIte,vl,vi,vd,wl,wi,wd,hk,hl,he]
        exact hJ _ _ ⟨m-1,by omega,k+1,rfl,rfl,by omega,qmr 0 (by omega) hk ht he⟩
      · simp (disch:=omega) only [zA,zB,zC,zD,zF,zG,zH,↓reduceIte,vl,vi,vd,wl,wi,wd,hk,hl,he]
        rw [decide_eq_false]
        rintro rfl;exact he rfl
    · simp (disch:=omega) only [zA,zB,zC,zD,zF,zG,zH,↓reduceIte,vl,vi,vd,wl,wi,wd,hk,hl]
      rw [List.take_of_length_le (by omega),List.take_of_length_le (by omega)] at ht
      rw [decide_eq_true ht]
  · simp (disch:=omega) only [zA,zB,zC,zD,zF,zG,zH,↓reduceIte,vl,wl,hl]
    rw [decide_eq_false]
    rintro rfl;exact hl rfl
theorem equalF_c {H:AH} {v w:Value} {xss yss:List (List Nat)} (hv:RowR H v (xss.map fun l=>l.map nv)) (hw:RowR H w (yss.map fun l=>l.map nv)) (hx:xss.length≤100000) (hx2:∀ l∈xss,l.length≤100000) :
    FN Tryz.prog 84 [v,w,.func (.func 87) #[] #[]] H (fun r H'=>r=.bool (decide (xss=yss))∧H'=H):=by
  refine g84_of ?_
  unfold g84
  obtain⟨vs,hvs,hvl,hvr⟩:=hv.openN
  obtain⟨ws,hws,hwl,hwr⟩:=hw.openN
  obtain⟨vl,vi,vd,_⟩:=hvs.allV
  obtain⟨wl,wi,wd,_⟩:=hws.allV
  by_cases hl:xss.length=yss.length
  · simp (disch:=omega) only [zA,zB,zC,zD,zF,zG,zH,↓reduceIte,vl,wl,hvl,hwl,hl]
    refine loopV1.ind (fun m i H'=>∃ k,i=nv k∧H'=H∧k+m=xss.length∧xss.take k=yss.take k) xss.length ⟨0,rfl,rfl,by omega,by simp⟩ ?_
    rintro m i _ ⟨k,rfl,rfl,hm,ht⟩ J hJ
    by_cases hk:k<yss.length
    · have hk1:k<vs.length:=by omega
      have hk2:k<ws.length:=by omega
      have hk3:k<xss.length:=by omega
      simp (disch:=omega) only [zA,zB,zC,zD,zF,zG,zH,↓reduceIte,vl,vi,vd,wl,wi,wd,hk,hk1,hk2]
      have hlen:(xss.getD k []).length≤100000:=by
        rw [List.getD_eq_getElem?_getD,List.getElem?_eq_getElem hk3];exact hx2 _ (List.getElem_mem hk3)
      refine FZ.use (equal_c (hvr k hk3) (hwr k hk) hlen) ?_
      by_cases he:xss.getD k []=yss.getD k []
      · simp (disch:=omega) only [zA,zB,zC,zD,zF,zG,zH,↓reduceIte,he]
        exact hJ _ _ ⟨m-1,by omega,k+1,rfl,rfl,by omega,qmr [] hk3 hk ht he⟩
      · simp (disch:=omega) only [zA,zB,zC,zD,zF,zG,zH,↓reduceIte,he]
        rw [decide_eq_false]
        rintro rfl;exact he rfl
    · have hk1:¬k<vs.length:=by omega
      simp (disch:=omega) only [zA,zB,zC,zD,zF,zG,zH,↓reduceIte,vl,hk,hk1]
      rw [List.take_of_length_le (by omega),List.take_of_length_le (by omega)] at ht
      rw [decide_eq_true ht]
  · have hl1:¬vs.length=ws.length:=by omega
    simp (disch:=omega) only [zA,zB,zC,zD,zF,zG,zH,↓reduceIte,vl,wl,hl1]
    rw [decide_eq_false]
    rintro rfl;exact hl rfl
section
variable {α:Type} [Fl α] [DecidableEq α] {cd:α→Nat} {p e b c q:Nat} {blk:AB} {H:AH}
theorem CRed.lo {n n0 sb C:Nat} {bs:List Nat} {M:List (List α)} {H H':AH} {r:Value} (h:CRed cd n sb bs M C H H' r) (hM:M.length≤C) (hl:∀ x∈sb :: bs,n0≤x) (hw:∀ x∈M,x.length=n):Lw.RowLo n0 H' r (evr cd (qbz M)):=by
  obtain⟨k,bs',M',rfl,hm,hk,ht,_,hsub,_⟩:=h
  obtain⟨op,ho⟩:=hm.spine
  have hle:=(qb5 hw).2.2
  have hkl:k=(qbz M).length:=by rw [←ht,List.length_take];omega
  have hbl:=hm.len
  refine⟨(bs'.map (rsl n)).take k,RowX.of_take ho (by simp;omega) (by omega),⟨by simp;omega,fun j hj=>?_⟩,?_,?_⟩
  · have hj':j<k:=by simp at hj;omega
    have hj3:j<bs'.length:=by omega
    have e1:((bs'.map (rsl n)).take k).getD j undef=rsl n (bs'.getD j 0):=by
      simp [List.getD_eq_getElem?_getD,List.getElem?_take_of_lt hj',List.getElem?_eq_getElem hj3]
    have e2:(evr cd (qbz M)).getD j []=evs cd (M'.getD j []):=by
      rw [evr_get,←ht]
      congr 1
      simp [List.getD_eq_getElem?_getD,List.getElem?_take_of_lt hj']
    rw [e1,e2]
    exact Row.of (hm.row j (by omega)) (by rw [List.length_map,qb7 hm.width (by omega)]) (Nat.le_refl _)
  · intro a l c h;cases h;exact hl _ (by simp)
  · intro x hx a l c h
    have hx':=List.mem_of_mem_take hx
    obtain⟨y,hy,rfl⟩:=List.mem_map.1 hx'
    cases h
    exact hl _ (List.mem_cons_of_mem _ (hsub y hy))
theorem CRed.pre {n sb C:Nat} {bs:List Nat} {M:List (List α)} {H0 H H':AH} {r:Value} (h:CRed cd n sb bs M C H H' r) (hp:Pre H0 H) (hl:∀ x∈sb :: bs,H0.length≤x):Pre H0 H':=by
  obtain⟨k,bs',M',_,_,_,_,hk,_,_⟩:=h
  have:=hp.len
  exact fun x hx=>(hk x (by omega) fun hm=>by have:=hl x hm;omega).trans (hp x hx)
theorem valid_c (Q:FQ α cd p e q blk) (hq:q≤16) {v:Value} {n:Nat} {A:List (List α)} (hv:RowR H v (evr cd A)) (hA:LRed n A) (hn:n≤24) (hn0:1≤n) :
    FN Tryz.prog 38 [codv q n v] H (fun r H'=>r=.bool true∧Pre H H'):=by
  refine g38_of ?_
  unfold g38
  have hle:=hA.le
  have ho:=hv.one'
  simp (disch:=omega) only [zA,zB,zC,zD,zF,zG,zH,↓reduceIte,ho]
  have hX:=Pre.new H [.cells [nv q,nv n,v] 29 none false]
  refine FZ.mono (shaped_c Q hq (most:=n) (hv.pre hX) hA.len (by omega) hle hn hn0) ?_
  rintro _ H2 ⟨hp2,b,rfl,hb2,hlb⟩
  have s4:=qck (H:=H2++[.cells [nv 0,nv 0,.slice none 0 0] 96 none false]) (bl:=H2.length) (x:=nv p) (y:=nv e) (z:=.slice (some ⟨b,0,none⟩) e e) (c0:=nv 0) (c1:=nv 0) (c2:=.slice none 0 0) (e:=96) (op:=none) rfl rfl rfl
  rw [qc9] at s4
  have hp24:=Pre.new H2 [.cells [nv p,nv e,.slice (some ⟨b,0,none⟩) e e] 96 none false]
  have hp4:=hp2.trans hp24
  have hb4:=hp24.get hb2
  obtain⟨H4,hH4⟩:∃ H4,H4=H2++[.cells [nv p,nv e,.slice (some ⟨b,0,none⟩) e e] 96 none false]:=⟨_,rfl⟩
  have gx:H4[H2.length]? = some (.cells [nv p,nv e,.slice (some ⟨b,0,none⟩) e e] 96 none false):=by rw [hH4];simp
  have g0:H4[H.length]? = some (.cells [nv q,nv n,v] 29 none false):=by rw [hH4];exact hp4.get (by simp)
  rw [←hH4] at s4 hp4 hb4 hp24
  have hX4:=hX.trans hp4
  simp (disch:=omega) only [zA,zB,zC,zD,zF,zG,zH,↓reduceIte,s4,g0,gx]
  refine FZ.mono (copied_c (hv.pre hX4) hA.len (by omega) (by omega) hn0) ?_
  rintro _ H5 ⟨hp5,sb,bs,rfl,hmt,hlo⟩
  have g05:=hp5.get g0
  have gx5:=hp5.get gx
  have hb5:=hp5.get hb4
  simp (disch:=omega) only [zA,zB,zC,zD,zF,zG,zH,↓reduceIte,g05,gx5]
  have hbn:b∉sb :: bs:=fun h=>by have:=hlo b h;have:=qbs hb4;omega
  refine FZ.mono (creduce_c (Q.ok b) hb5 hbn hmt (by omega) (by omega) rfl (Nat.le_refl _)) ?_
  rintro r6 H6 hc6
  have hp6:=hc6.pre hp5 hlo
  have hr6:=hc6.lo (Nat.le_refl _) hlo hA.len
  rw [qkc hA] at hr6
  have g06:=hp6.get g0
  simp (disch:=omega) only [zA,zB,zC,zD,zF,zG,zH,Nat.reduceEqDiff,Nat.reduceLT,Nat.reduceLeDiff,↓reduceIte,g06]
  have hv6:=hv.pre (hX4.trans hp6)
  rw [evr_nv] at hv6 hr6
  have hlen:∀ l∈A.map (fun l=>l.map cd),l.length≤100000:=by
    intro l hl
    obtain⟨x,hx,rfl⟩:=List.mem_map.1 hl
    rw [List.length_map,hA.len x hx];omega
  refine FZ.use (equalF_c hv6 hr6.rowR (by rw [List.length_map];omega) hlen) ?_
  simp (disch:=omega) only [zA,zB,zC,zD,zF,zG,zH,↓reduceIte]
  exact hX4.trans hp6
end
end Go.Sim

namespace Go.Sim
open Go Go.Proofs
section
variable {α:Type} [Fl α] [DecidableEq α] {cd:α→Nat} {p e b c q:Nat} {blk:AB} {H:AH}
theorem pivs_get {A:List (List α)} {i:Nat} (hi:i<A.length):(A.map lpiv).getD i 0=lpiv (A.getD i []):=by
  simp [List.getD_eq_getElem?_getD,List.getElem?_eq_getElem hi]
theorem LRed.redTo {n:Nat} {A:List (List α)} (h:LRed n A):RedTo n n A (A.map lpiv):=by
  have hr:=h.red
  have hp:=h.piv
  have e:∀ i,i<A.length→(A.map lpiv).getD i 0=lpiv (A.getD i []):=fun i hi=>pivs_get hi
  refine⟨by simp,h.len,fun i hi=>?_,fun i j hij hj=>?_,fun i hi=>?_,fun i k hi hk hne=>?_,fun i j hi hj=>?_,fun k j h1 h2=>by simp at h1;omega⟩
  · have hi':i<A.length:=by simpa using hi
    rw [e i hi'];exact hp.2 _ (getD_mem hi')
  · have hj':j<A.length:=by simpa using hj
    rw [e i (by omega),e j hj'];exact hr.inc i j hij hj'
  · have hi':i<A.length:=by simpa using hi
    rw [e i hi'];exact hr.one i hi'
  · have hi':i<A.length:=by simpa using hi
    rw [e i hi'];exact hr.alone i k hi' hk (Ne.symm hne)
  · have hi':i<A.length:=by simpa using hi
    rw [e i hi'] at hj;exact hr.lead i j hi' hj
theorem pivot_c (F:FOK α cd p e b c q blk) {v:Value} {x:List α} (hv:Row H v (evs cd x)) (hx:lpiv x<x.length) (hl:x.length≤1000) :
    FN Tryz.prog 93 [v] H (fun r H'=>r=nv (lpiv x)∧H'=H):=by
  refine g93_of ?_
  unfold g93
  refine FZ.mono (indexI_c (P:=fun k=>decide (x.getD k Fl.zero≠Fl.zero)) hv (by simpa using hl) fun k hk=>?_) ?_
  · have hk':k<x.length:=by simpa using hk
    have e1:(evs cd x).getD k undef=nv (cd (x.getD k Fl.zero)):=by
      simp [evs,List.getD_eq_getElem?_getD,List.getElem?_eq_getElem hk']
    rw [e1]
    refine g149_of ?_
    unfold g149
    by_cases h0:x.getD k Fl.zero=Fl.zero
    · have h1:cd (x.getD k Fl.zero)=0:=(F.eq0 _).2 h0
      simp (disch:=omega) only [zA,zB,zC,zD,zF,zG,zH,↓reduceIte,h1]
      rw [decide_eq_false (fun h=>h h0)]
    · have h1:¬cd (x.getD k Fl.zero)=0:=fun h=>h0 ((F.eq0 _).1 h)
      simp (disch:=omega) only [zA,zB,zC,zD,zF,zG,zH,↓reduceIte,h1]
      rw [decide_eq_true h0]
  · rintro _ _ ⟨⟨rfl,hno⟩|⟨k,rfl,hk,h1,h2⟩,rfl⟩
    · have:=hno (lpiv x) (by simpa using hx)
      exact absurd (qk7 x hx) (by simpa using this)
    · have hk':k<x.length:=by simpa using hk
      have:lpiv x=k:=qq2 hk' (fun j hj=>by have:=h2 j hj;simpa using this) (by simpa using h1)
      rw [this]
      exact⟨rfl,rfl⟩
structure AccM (cd:α→Nat) (n:Nat) (Hb H:AH) (v:Value) (bs:List Nat) (M:List (List α)):Prop where
  acc:Acc Hb H v (bs.map (rsl n)) 31
  len:bs.length=M.length
  row:∀ i,i<M.length→H[bs.getD i 0]? = some (.cells (evs cd (M.getD i [])) 3 none false)
  nd:bs.Nodup
  low:∀ x∈bs,Hb.length≤x
theorem AccM.sep {n:Nat} {Hb H:AH} {v:Value} {bs:List Nat} {M:List (List α)} (h:AccM cd n Hb H v bs M) {x:Nat} {y:List Value} {op:Option Nat} {ro:Bool} (hx:H[x]? = some (.cells y 3 op ro)):∀ l c,v≠.slice (some ⟨x,0,none⟩) l c:=by
  intro l c hv
  rcases h.acc with ⟨_,h2⟩|⟨b2,_,h2,op2,_,hb2⟩
  · rw [h2] at hv;cases hv
  · rw [h2] at hv
    cases hv
    rw [hx] at hb2
    cases hb2
theorem AccM.pre {n:Nat} {Hb H H':AH} {v:Value} {bs:List Nat} {M:List (List α)} (h:AccM cd n Hb H v bs M) (hp:Pre H H'):AccM cd n Hb H' v bs M:=
  ⟨h.acc.pre hp,h.len,fun i hi=>hp.get (h.row i hi),h.nd,h.low⟩
theorem AccM.app {n bl:Nat} {Hb H:AH} {v:Value} {bs:List Nat} {M:List (List α)} (h:AccM cd n Hb H v bs M) (hl0:Hb.length≤H.length) {x:List α} (hbl:H[bl]? = some (.cells (evs cd x) 3 none false)) (hlo:Hb.length≤bl) (hnew:bl∉bs) (hM:M.length≤1000) :
    ∃ v' H',xact (.app 31 1 24) (H++[.cells [rsl n bl] 31 none false]) [v,.slice (some ⟨H.length,0,none⟩) 1 1]=some (v',H')∧AccM cd n Hb H' v' (bs++[bl]) (M++[x])∧(Pre Hb H→Pre Hb H')∧H.length≤H'.length:=by
  have hlen:=h.len
  obtain⟨v',H',e1,ha,hf,hl7⟩:=h.acc.app1G (by_:=24) (u:=rsl n bl) hl0 rfl (by simp;omega) (by simp;omega) (e2:=31)
  refine⟨v',H',e1,⟨by simpa using ha,by simp [hlen],fun i hi=>?_,?_,fun y hy=>?_⟩,fun hp y hy=>?_,hl7⟩
  · rw [qdn,qdn]
    by_cases hi2:i<M.length
    · rw [if_pos (by omega),if_pos hi2]
      have:=h.row i hi2
      rw [hf _ (qbs this) (h.sep this)];exact this
    · have:i=M.length:=by simp at hi;omega
      subst this
      rw [if_neg (by omega),if_pos hlen.symm,if_neg (by omega),if_pos rfl,hf _ (qbs hbl) (h.sep hbl)]
      exact hbl
  · rw [List.nodup_append]
    refine⟨h.nd,by simp,fun a ha' x hx=>?_⟩
    rw [List.mem_singleton.1 hx]
    rintro rfl;exact hnew ha'
  · rcases List.mem_append.1 hy with hy|hy
    · exact h.low y hy
    · rw [List.mem_singleton.1 hy];exact hlo
  · rw [hf y (by omega) fun l c hv=>?_]
    · exact hp y hy
    · rcases h.acc with ⟨_,h2⟩|⟨b2,hb1,h2,op2,_,hb2⟩
      · rw [h2] at hv;cases hv
      · rw [h2] at hv;cases hv;omega
theorem AccM.mt {n:Nat} {Hb H:AH} {v:Value} {bs:List Nat} {M:List (List α)} (h:AccM cd n Hb H v bs M) (hw:∀ x∈M,x.length=n):(v=.slice none 0 0∧M=[])∨∃ sb,v=.slice (some ⟨sb,0,none⟩) M.length M.length∧Mt cd n sb bs H M∧∀ x∈sb :: bs,Hb.length≤x:=by
  have hl:=h.len
  rcases h.acc with ⟨h2,h3⟩|⟨b2,hb1,h2,op2,_,hb2⟩
  · have e:bs=[]:=List.map_eq_nil_iff.1 h2
    rw [e] at hl
    exact .inl ⟨h3,List.eq_nil_of_length_eq_zero hl.symm⟩
  · refine .inr ⟨b2,by rw [h2,List.length_map,hl],⟨⟨op2,hb2⟩,hl,h.row,hw,?_⟩,fun x hx=>?_⟩
    · rw [List.nodup_cons]
      refine⟨fun hx=>?_,h.nd⟩
      obtain⟨i,hi,rfl⟩:=List.mem_iff_getElem.1 hx
      have:=h.row i (by omega)
      rw [List.getD_eq_getElem?_getD,List.getElem?_eq_getElem hi] at this
      rw [Option.getD_some,hb2] at this
      simp at this
    · rcases List.mem_cons.1 hx with rfl|hx
      · exact hb1
      · exact h.low x hx
theorem creduce_nil {n:Nat} {f0 f1 f2:Value} (h0:one f0=true) (h1:one f1=true) (h2:one f2=true) (hn:n≤1000):FN Tryz.prog 85 [.agg [f0,f1,f2].toArray,nv n,.slice none 0 0] H (fun r H'=>r=.slice none 0 0∧Pre H H'):=by
  refine g85_of ?_
  unfold g85
  have s0:=qfq (c:=[nv 0]) (e:=3) (op:=none) (H:=H++[.cells [f0,f1,f2] 96 none false,.cells [nv 0] 3 none false]) (bl:=H.length+1) (o:=0) (v:=nv 0) rfl rfl (by simp)
  have e0:(H++[AB.cells [f0,f1,f2] 96 none false,AB.cells [nv 0] 3 none false]).set (H.length+1) (AB.cells ([nv 0].set 0 (nv 0)) 3 none false)=H++[AB.cells [f0,f1,f2] 96 none false,AB.cells [nv 0] 3 none false]:=by
    rw [List.set_append_right _ _ (by omega)];simp
  rw [e0] at s0
  simp (disch:=omega) only [zA,zB,zC,zD,zF,zG,zH,↓reduceIte,s0]
  refine loopV2.ind (fun m r c8 H'=>r=nv 0∧c8=.pointer (some ⟨H.length+1,0,none⟩)∧H'=H++[AB.cells [f0,f1,f2] 96 none false,AB.cells [nv 0] 3 none false]) 0 ⟨rfl,rfl,rfl⟩ ?_
  rintro m r c8 H4 ⟨rfl,rfl,rfl⟩ J hJ
  have hnil:qbc .lenS [.slice none 0 0]=some (nv 0):=rfl
  have hsl:qbc (.slS 1 false true) [.slice none 0 0,nv 0]=some (.slice none 0 0):=rfl
  by_cases hn0:0<n
  · simp (disch:=omega) only [zA,zB,zC,zD,zF,zG,zH,↓reduceIte,hn0,hnil,hsl]
    exact Pre.new _ _
  · simp (disch:=omega) only [zA,zB,zC,zD,zF,zG,zH,↓reduceIte,hn0,hnil,hsl]
    exact Pre.new _ _
theorem zeros_ev (F:FOK α cd p e b c q blk) (n:Nat):(List.replicate n 0).map nv=evs cd (List.replicate n (Fl.zero:α)):=by simp [evs,F.zero]
def freeK (P:List Nat) (k:Nat):List Nat:=(List.range k).filter fun c=>decide (c∉P)
theorem freeK_succ (P:List Nat) (k:Nat):freeK P (k+1)=freeK P k++if k∈P then [] else [k]:=by
  unfold freeK
  rw [List.range_succ,List.filter_append]
  by_cases h:k∈P<;>simp [h]
theorem codv_fill {q n:Nat} {w:Value} (h:isSl w=true):qb3 [nv 0,nv 0,.slice none 0 0] [(0,1),(1,1),(2,1)] [nv q,nv n,w]=some [nv q,nv n,w]:=by
  cases w<;>simp [isSl] at h
  rfl
theorem dual_c (Q:FQ α cd p e q blk) (hq:q≤16) {v:Value} {n:Nat} {A:List (List α)} (hv:RowR H v (evr cd A)) (hA:LRed n A) (hn:n≤24) (hn0:1≤n) :
    FN Tryz.prog 47 [codv q n v] H (fun r H'=>Pre H H'∧∃ w,r=codv q n w∧Lw.RowLo H.length H' w (evr cd (qcf n A))):=by
  refine g47_of ?_
  unfold g47
  have hle:=hA.le
  have ho:=hv.one'
  have hA5:A.length≤24:=by omega
  simp (disch:=omega) only [zA,zB,zC,zD,zF,zG,zH,↓reduceIte,ho]
  have hX:=Pre.new H [.cells [nv q,nv n,v] 29 none false,.cells [nv 0,nv 0,.slice none 0 0] 29 none false]
  refine FZ.mono (valid_c Q hq (hv.pre hX) hA hn hn0) ?_
  rintro _ H3 ⟨rfl,hp3⟩
  have c3:H3[H.length]? = some (.cells [nv q,nv n,v] 29 none false):=hp3.get (by simp)
  have r3:H3[H.length+1]? = some (.cells [nv 0,nv 0,.slice none 0 0] 29 none false):=hp3.get (by simp)
  simp (disch:=omega) only [zA,zB,zC,zD,zF,zG,zH,↓reduceIte,c3]
  refine FZ.mono (qqr Q hq) ?_
  rintro _ H5 ⟨hp5,b,rfl,hb5,hlb⟩
  have s6:=qck (H:=H5++[.cells [nv 0,nv 0,.slice none 0 0] 96 none false]) (bl:=H5.length) (x:=nv p) (y:=nv e) (z:=.slice (some ⟨b,0,none⟩) e e) (c0:=nv 0) (c1:=nv 0) (c2:=.slice none 0 0) (e:=96) (op:=none) rfl rfl rfl
  rw [qc9] at s6
  have hp57:=Pre.new H5 [.cells [nv p,nv e,.slice (some ⟨b,0,none⟩) e e] 96 none false]
  obtain⟨H7,hH7⟩:∃ H7,H7=H5++[.cells [nv p,nv e,.slice (some ⟨b,0,none⟩) e e] 96 none false]:=⟨_,rfl⟩
  have o7:H7[H5.length]? = some (.cells [nv p,nv e,.slice (some ⟨b,0,none⟩) e e] 96 none false):=by rw [hH7];simp
  rw [←hH7] at s6 hp57
  have hp7:=hp3.trans (hp5.trans hp57)
  have c7:=(hp5.trans hp57).get c3
  have r7:=(hp5.trans hp57).get r3
  have b7:=hp57.get hb5
  have hX7:=hX.trans hp7
  have hv7:=hv.pre hX7
  have hl7:H.length+2≤H7.length:=by have:=hp7.len;simpa using this
  have hmk:1*n≤281474976710656:=by omega
  simp (disch:=omega) only [zA,zB,zC,zD,zF,zG,zH,↓reduceIte,s6,c7,xnew_makeB,hmk]
  clear hH7
  -- all are free
  refine loopV1.nat n (fun k i H'=>i=nv k∧H'=H7++[.cells (tab n fun j=>.bool (decide (j<k))) 4 none false]) ⟨rfl,by congr 3⟩ ?_ ?_
  · rintro k i _ hk ⟨rfl,rfl⟩ J hJ
    have s1:=qp3 (H:=H7++[.cells (tab n fun j=>.bool (decide (j<k))) 4 none false]) (bl:=H7.length) (f:=fun j=>.bool (decide (j<k))) (g:=fun j=>.bool (decide (j<k+1))) (n:=n) (k:=k) (et:=4) (op:=none) (v:=.bool true) (by simp) hk rfl rfl (by simp) (fun j hj hjk=>by
      congr 1;rw [decide_eq_decide];omega)
    rw [qc9] at s1
    simp (disch:=omega) only [zA,zB,zC,zD,zF,zG,zH,↓reduceIte,hk,s1]
    exact hJ _ _ ⟨rfl,rfl⟩
  rintro i _ ⟨rfl,rfl⟩ J1
  obtain⟨P,hP⟩:∃ P,P=A.map lpiv:=⟨_,rfl⟩
  have hred:=hA.redTo
  rw [←hP] at hred
  have hPl:P.length=A.length:=by rw [hP,List.length_map]
  have hPg:∀ i,i<A.length→P.getD i 0=lpiv (A.getD i []):=fun i hi=>by rw [hP];exact pivs_get hi
  have c8:=qjm c7 [.cells (tab n fun j=>.bool (decide (j<n))) 4 none false]
  obtain⟨vs,hvs,hvl,hvr⟩:=hv7.open
  obtain⟨vl,vi,_,vd2⟩:=hvs.allV
  rw [hvl] at vl
  simp (disch:=omega) only [zA,zB,zC,zD,zF,zG,zH,↓reduceIte,c8,vl]
  have hpvl:∀ k,k<A.length→lpiv (A.getD k [])<(A.getD k []).length:=fun k hk=>by rw [qb7 hA.len hk];exact hA.piv.2 _ (getD_mem hk)
  -- the pivots are not
  refine loopV1.nat A.length (fun k i H'=>i=nv k∧H'=H7++[.cells (tab n fun j=>.bool (decide (j∉P.take k))) 4 none false]) ⟨rfl,by congr 3;exact qgt fun j hj=>by simp [hj]⟩ ?_ ?_
  · rintro k i _ hk ⟨rfl,rfl⟩ J hJ
    have hk':k<vs.length:=by omega
    have hp8:=Pre.new H7 [.cells (tab n fun j=>.bool (decide (j∉P.take k))) 4 none false]
    have hrow:=(hvr k hk).pre hp8
    have hpn:lpiv (A.getD k [])<n:=hA.piv.2 _ (getD_mem hk)
    simp (disch:=omega) only [zA,zB,zC,zD,zF,zG,zH,↓reduceIte,vi,vd2,hk',hk]
    refine FZ.use (pivot_c (Q.ok 0) hrow (hpvl k hk) (by rw [qb7 hA.len hk];omega)) ?_
    have hPk:P.take (k+1)=P.take k++[lpiv (A.getD k [])]:=by
      rw [List.take_succ_eq_append_getElem (by omega)]
      have:=hPg k hk
      rw [List.getD_eq_getElem?_getD,List.getElem?_eq_getElem (by omega),Option.getD_some] at this
      rw [this]
    have s1:=qp3 (H:=H7++[.cells (tab n fun j=>.bool (decide (j∉P.take k))) 4 none false]) (bl:=H7.length) (f:=fun j=>.bool (decide (j∉P.take k))) (g:=fun j=>.bool (decide (j∉P.take (k+1)))) (n:=n) (k:=lpiv (A.getD k [])) (et:=4) (op:=none) (v:=.bool false) (by simp) hpn rfl rfl (by rw [hPk];simp) (fun j hj hjk=>by
      congr 1;rw [decide_eq_decide,hPk];simp only [List.mem_append,List.mem_singleton,not_or];exact⟨fun h=>h.1,fun h=>⟨h,hjk⟩⟩)
    rw [qc9] at s1
    simp (disch:=omega) only [zA,zB,zC,zD,zF,zG,zH,↓reduceIte,hpn,s1]
    exact hJ _ _ ⟨rfl,rfl⟩
  rintro i _ ⟨rfl,rfl⟩ J2
  rw [show P.take A.length=P by rw [←hPl,List.take_length]]
  obtain⟨H8,hH8⟩:∃ H8,H8=H7++[.cells (tab n fun j=>.bool (decide (j∉P))) 4 none false]:=⟨_,rfl⟩
  have hp78:=Pre.new H7 [.cells (tab n fun j=>.bool (decide (j∉P))) 4 none false]
  have f8:H8[H7.length]? = some (.cells (tab n fun j=>.bool (decide (j∉P))) 4 none false):=by rw [hH8];simp
  have l8:H8.length=H7.length+1:=by rw [hH8];simp
  rw [←hH8] at hp78 ⊢
  clear hH8 c8
  have c8:=hp78.get c7
  have o8:=hp78.get o7
  have b8:=hp78.get b7
  have hvs8:=hvs.pre hp78
  simp (disch:=omega) only [zA,zB,zC,zD,zF,zG,zH,↓reduceIte,c8]
  refine loopV2.nat n (fun k rows i H'=>i=nv k∧Pre H8 H'∧∃ bs,AccM cd n H8 H' rows bs ((freeK P k).map fun j=>qc7 n A P j P.length)) ⟨rfl,Pre.refl _,[],Acc.nil,rfl,fun i hi=>by simp [freeK] at hi,List.nodup_nil,by simp⟩ ?_ ?_
  · rintro k rows i H9 hk ⟨rfl,hp9,bs,hacc⟩ J hJ
    have f9:=hp9.get f8
    have c9:=hp9.get c8
    have ld9:=tab_ld f9 hk
    have ix9:qbc (.ixS 1) [.slice (some ⟨H7.length,0,none⟩) n n,nv k]=some (.pointer (some ⟨H7.length,k,none⟩)):=by rw [xp_ixSN hk];simp
    by_cases hkP:k∈P
    · have hd:decide (k∉P)=false:=decide_eq_false fun h=>h hkP
      rw [hd] at ld9
      simp (disch:=omega) only [zA,zB,zC,zD,zF,zG,zH,↓reduceIte,hk,ix9,ld9]
      refine hJ _ _ _ ⟨rfl,hp9,bs,?_⟩
      rw [freeK_succ,if_pos hkP,List.append_nil]
      exact hacc
    · have hd:decide (k∉P)=true:=decide_eq_true hkP
      rw [hd] at ld9
      have hmk2:8*n≤281474976710656:=by omega
      have st0:=st_ev (cd:=cd) (H:=H9++[.cells (evs cd (List.replicate n (Fl.zero:α))) 3 none false]) (bl:=H9.length) (k:=k) (xs:=List.replicate n (Fl.zero:α)) (x:=Fl.one) (t:=3) (op:=none) (by simp) (by simpa using hk)
      rw [qc9,←zeros_ev (Q.ok 0),(Q.ok 0).one] at st0
      have hps:=Pre.new H9 [.cells (evs cd (lunit (α:=α) n k)) 3 none false]
      have c10:=hps.get c9
      have vl10:=((hvs8.pre hp9).pre hps).allV.1
      rw [hvl] at vl10
      simp (disch:=omega) only [zA,zB,zC,zD,zF,zG,zH,↓reduceIte,hk,ix9,ld9,c9,qds,hmk2,st0]
      have st0':(H9++[AB.cells (evs cd ((List.replicate n (Fl.zero:α)).set k Fl.one)) 3 none false])=H9++[AB.cells (evs cd (qc7 n A P k 0)) 3 none false]:=rfl
      rw [st0']
      have c10':(H9++[AB.cells (evs cd (qc7 n A P k 0)) 3 none false])[H.length]? = some (.cells [nv q,nv n,v] 29 none false):=c10
      simp (disch:=omega) only [zA,zB,zC,zD,zF,zG,zH,↓reduceIte,c10',vl10]
      refine loopV1.nat A.length (fun m i H'=>i=nv m∧H'=H9++[.cells (evs cd (qc7 n A P k m)) 3 none false]) ⟨rfl,rfl⟩ ?_ ?_
      · rintro m i _ hm ⟨rfl,rfl⟩ J3 hJ3
        have hp10:=hp9.trans (Pre.new H9 [.cells (evs cd (qc7 n A P k m)) 3 none false])
        obtain⟨_,wi,wd,_⟩:=(hvs8.pre hp10).allV
        have hm':m<vs.length:=by omega
        have hrow:=(hvr m hm).pre (hp78.trans hp10)
        have hxl:=qb7 hA.len hm
        obtain⟨_,ri,rd,_⟩:=hrow.all Fl.zero
        have hkx:k<(A.getD m []).length:=by omega
        have o10:=hp10.get o8
        have b10:=hp10.get b8
        have hpn:lpiv (A.getD m [])<n:=hA.piv.2 _ (getD_mem hm)
        simp (disch:=omega) only [zA,zB,zC,zD,zF,zG,zH,↓reduceIte,hm,hm',wi,wd,o10,ri,rd,hkx]
        refine FZ.use (pivot_c (Q.ok 0) hrow (hpvl m hm) (by omega)) ?_
        simp (disch:=omega) only [zA,zB,zC,zD,zF,zG,zH,↓reduceIte,o10,ri,rd,hkx]
        refine FZ.use ((Q.ok b).neg _ _ b10) ?_
        have st1:=st_ev (cd:=cd) (H:=H9++[.cells (evs cd (qc7 n A P k m)) 3 none false]) (bl:=H9.length) (k:=lpiv (A.getD m [])) (xs:=qc7 n A P k m) (x:=Fl.neg ((A.getD m []).getD k Fl.zero)) (t:=3) (op:=none) (by simp) (by rw [qfc];exact hpn)
        rw [qc9] at st1
        have hst:(qc7 n A P k m).set (lpiv (A.getD m [])) (Fl.neg ((A.getD m []).getD k Fl.zero))=qc7 n A P k (m+1):=by
          rw [←hPg m hm];rfl
        rw [hst] at st1
        simp (disch:=omega) only [zA,zB,zC,zD,zF,zG,zH,↓reduceIte,hpn,st1]
        exact hJ3 _ _ ⟨rfl,rfl⟩
      · rintro i _ ⟨rfl,rfl⟩ J3
        have hps2:=Pre.new H9 [.cells (evs cd (qc7 n A P k A.length)) 3 none false]
        have hfk:(freeK P k).length≤k:=by unfold freeK;exact Nat.le_trans (List.length_filter_le _ _) (by simp)
        have hnb:H9.length∉bs:=fun hx=>by
          obtain⟨i,hi,he⟩:=List.mem_iff_getElem.1 hx
          have:=hacc.row i (by rw [←hacc.len];exact hi)
          rw [List.getD_eq_getElem?_getD,List.getElem?_eq_getElem hi,Option.getD_some,he] at this
          have:=qbs this
          omega
        have hl9:=hp9.len
        obtain⟨v',H10,e1,ha,hpp,hl10⟩:=(hacc.pre hps2).app (bl:=H9.length) (by simp;omega) (x:=qc7 n A P k A.length) (by simp) (by omega) hnb (by simp;omega)
        simp only [List.append_assoc,List.cons_append,List.nil_append,List.length_append,List.length_cons,List.length_nil,Nat.zero_add] at e1
        have fl:qb3 [.slice none 0 0] [(0,1)] [.slice (some ⟨H9.length,0,none⟩) n n]=some [.slice (some ⟨H9.length,0,none⟩) n n]:=rfl
        simp (disch:=omega) only [zA,zB,zC,zD,zF,zG,zH,↓reduceIte,fl,e1]
        refine hJ _ _ _ ⟨rfl,hpp (hp9.trans hps2),bs++[H9.length],?_⟩
        rw [freeK_succ,if_neg hkP,List.map_append,List.map_singleton,hPl]
        rw [hPl] at ha
        exact ha
  · rintro rows i H9 ⟨rfl,hp9,bs,hacc⟩ J
    have c9:=hp9.get c8
    have o9:=hp9.get o8
    have b9:=hp9.get b8
    have hX9:=hX7.trans (hp78.trans hp9)
    have hr9:=(hp78.trans hp9).get r7
    have hN:(freeK P n).map (fun j=>qc7 n A P j P.length)=qd2 n A P:=rfl
    rw [hN] at hacc
    have hK:qbz (qd2 n A P)=qcf n A:=qkd hred hA.len fun _=>Iff.rfl
    have hNw:=qk8 n A P
    have hl89:=hp9.len
    simp (disch:=omega) only [zA,zB,zC,zD,zF,zG,zH,↓reduceIte,c9,o9]
    have key:FN Tryz.prog 85 [fldv p e b e e,nv n,rows] H9 (fun r H'=>Pre H8 H'∧Lw.RowLo H8.length H' r (evr cd (qcf n A))):=by
      rcases hacc.mt hNw with ⟨rfl,h0⟩|⟨sb,rfl,hmt,hlo⟩
      · refine (creduce_nil (n:=n) rfl rfl rfl (by omega)).mono ?_
        rintro _ H' ⟨rfl,hp⟩
        refine⟨hp9.trans hp,?_⟩
        rw [←hK,h0]
        exact⟨[],⟨.inl ⟨rfl,_,_,rfl⟩,rfl⟩,⟨rfl,by simp [qbz]⟩,fun a l c h=>(by cases h),by simp⟩
      · have hnl:(qd2 n A P).length≤n:=by
          unfold qd2;rw [List.length_map];exact Nat.le_trans (List.length_filter_le _ _) (by simp)
        have hbn:b∉sb :: bs:=fun h=>by have:=hlo b h;have:=qbs b8;omega
        refine (creduce_c (Q.ok b) b9 hbn hmt (by omega) (by omega) rfl (Nat.le_refl _)).mono ?_
        intro r H' hc
        refine⟨hc.pre hp9 hlo,?_⟩
        rw [←hK]
        exact hc.lo (Nat.le_refl _) hlo hNw
    refine FZ.mono key ?_
    rintro w H10 ⟨hp10,hw⟩
    have hp810:=hp78.trans hp10
    have c10:=hp10.get c8
    have r10:=hp810.get r7
    have fw:=codv_fill (q:=q) (n:=n) hw.isSl
    have s9:=qck (H:=H10) (bl:=H.length+1) (x:=nv q) (y:=nv n) (z:=w) (c0:=nv 0) (c1:=nv 0) (c2:=.slice none 0 0) (e:=29) (op:=none) rfl rfl hw.one
    have g9:(H10.set (H.length+1) (.cells [nv q,nv n,w] 29 none false))[H.length+1]? = some (.cells [nv q,nv n,w] 29 none false):=List.getElem?_set_self (qbs r10)
    simp (disch:=omega) only [zA,zB,zC,zD,zF,zG,zH,↓reduceIte,c10,fw,r10,s9,g9]
    exact⟨(hX7.trans hp810).set (by omega) _,w,rfl,(hw.setLow (by omega)).mono (by omega)⟩
end
end Go.Sim

namespace Go.Sim
open Go Go.Proofs
section
variable {α:Type} [Fl α] [DecidableEq α] {cd:α→Nat} {p e b c q:Nat} {blk:AB} {H:AH}
theorem lplus_more {xs ys:List α} {a:α}:qft xs (ys.map (Fl.mul a))=qcg xs a ys:=by
  unfold qft qcg
  rw [List.zipWith_map_right]
theorem qks {c d:Nat→α} {R:Nat→Vc α}:∀ m,(∀ i,i<m→c i=d i)→comb c R m=comb d R m
  | 0,_=>rfl
  | k+1,h=>by rw [comb,comb,qks k fun i hi=>h i (by omega),h k (by omega)]
end
end Go.Sim
