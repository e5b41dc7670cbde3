/- Part of the proof: MpF. -/
import Derived.Test.YtbfpepbfpebmmaaGreatMDisZSpX1ToMpD
set_option linter.all false
namespace Go.Sim
open Go Go.Proofs
def dig (q:Nat):Nat→Nat→List Nat
  | 0,_=>[]
  | k+1,i=>dig q k (i / q)++[i % q]
theorem dig_len (q:Nat):∀ k i,(dig q k i).length=k
  | 0,_=>rfl
  | k+1,i=>by simp [dig,dig_len q k]
theorem dig_lt {q:Nat} (hq:0<q):∀ k i,∀ d∈dig q k i,d<q
  | 0,_,d,h=>by simp [dig] at h
  | k+1,i,d,h=>by
    rcases List.mem_append.1 h with h|h
    · exact dig_lt hq k _ d h
    · rw [List.mem_singleton.1 h];exact Nat.mod_lt _ hq
theorem dig_get {q:Nat}:∀ k i j,j<k→(dig q k i).getD j 0=i / q ^ (k-1-j) % q
  | 0,i,j,h=>by omega
  | k + 1,i,j,h=>by
    have hl:=dig_len q k (i / q)
    unfold dig
    by_cases hj:j<k
    · rw [List.getD_eq_getElem?_getD,List.getElem?_append_left (by omega),←List.getD_eq_getElem?_getD,dig_get k _ j hj,Nat.div_div_eq_div_mul]
      congr 2
      rw [show k+1-1-j=(k-1-j)+1 by omega,Nat.pow_succ,Nat.mul_comm]
    · have:j=k:=by omega
      subst this
      rw [List.getD_eq_getElem?_getD,List.getElem?_append_right (by omega),hl]
      simp
theorem dig_sur' {q:Nat} (hq:0<q):∀ (k:Nat) (ds:List Nat),ds.length=k→(∀ d∈ds,d<q)→∃ i,i<q ^ k∧dig q k i=ds
  | 0,ds,hl,_=>⟨0,by simp,(List.eq_nil_of_length_eq_zero hl).symm⟩
  | k + 1,ds,hl,h=>by
    have hne:ds≠[]:=fun e=>by rw [e] at hl;simp at hl
    obtain⟨d,hd0⟩:∃ d,d=ds.getLast hne:=⟨_,rfl⟩
    have e0:ds.dropLast++[d]=ds:=by rw [hd0];exact List.dropLast_concat_getLast hne
    obtain⟨i,hi,e⟩:=dig_sur' hq k ds.dropLast (by rw [List.length_dropLast,hl];rfl) fun x hx=>h x ((List.dropLast_sublist ds).subset hx)
    have hd:=h d (by rw [hd0];exact List.getLast_mem hne)
    refine⟨i*q+d,?_,?_⟩
    · rw [Nat.pow_succ]
      have:(i+1)*q≤q ^ k*q:=Nat.mul_le_mul_right q hi
      rw [Nat.succ_mul] at this
      omega
    · unfold dig
      have e1:(i*q+d) / q=i:=by rw [Nat.mul_comm,Nat.mul_add_div hq,Nat.div_eq_of_lt hd,Nat.add_zero]
      have e2:(i*q+d) % q=d:=by rw [Nat.mul_comm,Nat.mul_add_mod,Nat.mod_eq_of_lt hd]
      rw [e1,e2,e,e0]
theorem dig_sur {q:Nat} (hq:0<q) (ds:List Nat) (h:∀ d∈ds,d<q):∃ i,i<q ^ ds.length∧dig q ds.length i=ds:=dig_sur' hq _ ds rfl h
theorem dig_inj {q:Nat} (hq:0<q):∀ k i j,i<q ^ k→j<q ^ k→dig q k i=dig q k j→i=j
  | 0,i,j,hi,hj,_=>by simp at hi hj;omega
  | k+1,i,j,hi,hj,h=>by
    unfold dig at h
    obtain⟨h1,h2⟩:=List.append_inj h (by rw [dig_len,dig_len])
    have h3:i % q=j % q:=by simpa using h2
    have h4:=dig_inj hq k (i / q) (j / q) (Nat.div_lt_of_lt_mul (by rw [Nat.pow_succ,Nat.mul_comm] at hi;exact hi)) (Nat.div_lt_of_lt_mul (by rw [Nat.pow_succ,Nat.mul_comm] at hj;exact hj)) h1
    rw [←Nat.div_add_mod i q,←Nat.div_add_mod j q,h3,h4]
section
variable {α:Type} [Fl α] [DecidableEq α] {cd:α→Nat} {p e b c q:Nat} {blk:AB} {H:AH}
theorem dec_ex (F:FOK α cd p e b c q blk):∃ dec:Nat→α,∀ d,d<q→cd (dec d)=d:=by
  refine⟨fun d=>if h:d<q then Classical.choose (F.sur d h) else Fl.zero,fun d hd=>?_⟩
  simp only [dif_pos hd]
  exact Classical.choose_spec (F.sur d hd)
structure Wds (A:List (List α)) (n q:Nat) (ws:List (List α)):Prop where
  len:ws.length=q ^ A.length
  mem:∀ x∈ws,x.length=n∧LSpan A (toV x)
  all:∀ u,LSpan A u→∃ x∈ws,toV x=u
  nd:ws.Nodup
theorem lcomb_inj {n:Nat} {A:List (List α)} (hA:LRed n A) {ms ms':List α} (h1:ms.length=A.length) (h2:ms'.length=A.length) (h:lcomb n A ms=lcomb n A ms'):ms=ms':=by
  have key:∀ ms:List α,ms.length=A.length→∀ i,i<A.length→toV (lcomb n A ms) (lpiv (A.getD i []))=ms.getD i Fl.zero:=by
    intro ms hm i hi
    have hr:=hA.red
    unfold lcomb
    rw [toV_lcombk hA.len _ (Nat.le_refl _)]
    have e1:=hr.coord (comb_span (toV ms) (rowV A) A.length)
    have e2:comb (toV ms) (rowV A) A.length (lpiv (A.getD i []))=toV ms i:=by
      rw [comb_dot]
      have:dotn A.length (toV ms) (fun k=>rowV A k (lpiv (A.getD i [])))=dotn A.length (toV ms) (vun i):=dotn_cong _ fun j hj=>by
        congr 1
        unfold vun
        by_cases hji:j=i
        · subst hji;rw [if_pos rfl];exact hr.one j hj
        · rw [if_neg hji];exact hr.alone i j hi hj (Ne.symm hji)
      rw [this,dotn_un _ _ _ hi]
    rw [e2];rfl
  refine List.ext_getElem (by omega) fun i a1 a2=>?_
  have e1:=key ms h1 i (by omega)
  have e2:=key ms' h2 i (by omega)
  rw [h,e2] at e1
  simp only [List.getD_eq_getElem?_getD,List.getElem?_eq_getElem a1,List.getElem?_eq_getElem a2,Option.getD_some] at e1
  exact e1.symm
theorem wds_of (F:FOK α cd p e b c q blk) {n:Nat} {A:List (List α)} (hA:LRed n A) {dec:Nat→α} (hd:∀ d,d<q→cd (dec d)=d):Wds A n q ((List.range (q ^ A.length)).map fun i=>lcomb n A ((dig q A.length i).map dec)):=by
  have hq:=F.q2
  have hq0:0<q:=by omega
  refine⟨by simp,fun x hx=>?_,fun u hu=>?_,?_⟩
  · obtain⟨i,hi,rfl⟩:=List.mem_map.1 hx
    exact⟨lcombk_length hA.len _ (Nat.le_refl _),lcomb_span hA.len⟩
  · obtain⟨ms,hms⟩:∃ ms:List α,ms=A.map fun x=>u (lpiv x):=⟨_,rfl⟩
    have hml:ms.length=A.length:=by rw [hms,List.length_map]
    obtain⟨i,hi,he⟩:=dig_sur hq0 (ms.map cd) fun d hd=>by obtain⟨a,_,rfl⟩:=List.mem_map.1 hd;exact F.lt a
    rw [List.length_map,hml] at hi he
    refine⟨lcomb n A ((dig q A.length i).map dec),List.mem_map.2 ⟨i,List.mem_range.2 hi,rfl⟩,?_⟩
    have e1:(dig q A.length i).map dec=ms:=by
      rw [he,List.map_map]
      conv=>rhs;rw [←List.map_id ms]
      exact List.map_congr_left fun a _=>F.inj _ _ (hd _ (F.lt a))
    rw [e1]
    unfold lcomb
    rw [toV_lcombk hA.len _ (Nat.le_refl _),hA.red.coord hu]
    refine comb_cong _ fun j hj=>?_
    show ms.getD j Fl.zero=u (lpiv (A.getD j []))
    rw [hms]
    simp [List.getD_eq_getElem?_getD,List.getElem?_eq_getElem hj]
  · rw [List.Nodup,List.pairwise_map]
    refine List.Pairwise.imp_of_mem ?_ (List.nodup_range (n:=q ^ A.length))
    intro i j hi hj hne he
    have h1:=lcomb_inj hA (by rw [List.length_map,dig_len]) (by rw [List.length_map,dig_len]) he
    refine hne (dig_inj hq0 A.length i j (List.mem_range.1 hi) (List.mem_range.1 hj) ?_)
    have h2:=congrArg (List.map cd) h1
    rw [List.map_map,List.map_map] at h2
    have e:∀ i,(dig q A.length i).map (cd∘dec)=dig q A.length i:=fun i=>by
      conv=>rhs;rw [←List.map_id (dig q A.length i)]
      exact List.map_congr_left fun d hd'=>hd d (dig_lt hq0 _ _ d hd')
    rwa [e,e] at h2
theorem keep_gc {P:Program} {f:FuncId} {args:List Value} {H:AH} {R:Value→Prop} (h:FN P f args H (fun v H'=>R v∧ground v=true∧Pre H H')):FN P f args H (fun v H'=>R v∧H'=H):=
  FN.gc0 (h.mono fun v H' ⟨h1,h2,h3⟩=>⟨h1,h2,Keep.split ⟨h3.len,h3⟩⟩)
theorem count_c {v:Value} {n k:Nat} {A:List (List α)} (hv:RowR H v (evr cd A)) (hk:A.length=k) (hk2:k≤1000) (hq:q ^ k≤4096) (hq0:0<q) :
    FN Tryz.prog 42 [codv q n v] H (fun r H'=>r=nv (q ^ k)∧H'=H):=by
  refine keep_gc (R:=fun r=>r=nv (q ^ k)) ?_
  refine g42_of ?_
  unfold g42
  have ho:=hv.one'
  have hX:=Pre.new H [.cells [nv q,nv n,v] 29 none false]
  obtain⟨vs,hvs,hvl,_⟩:=(hv.pre hX).open
  obtain⟨vl,_,_,_⟩:=hvs.allV
  rw [hvl,hk] at vl
  simp (disch:=omega) only [zA,zB,zC,zD,zF,zG,zH,↓reduceIte,ho]
  refine loopV2.nat k (fun t m i H'=>m=nv (q ^ t)∧i=nv t∧H'=H++[.cells [nv q,nv n,v] 29 none false]) ⟨by simp,rfl,rfl⟩ ?_ ?_
  · rintro t m i _ ht ⟨rfl,rfl,rfl⟩ J hJ
    have h1:q ^ t*q=q ^ (t+1):=rfl
    have h2:q ^ (t+1)≤q ^ k:=Nat.pow_le_pow_right hq0 ht
    have h3:q ^ t*q<9223372036854775808:=by omega
    have h4:min (q ^ t*q) 4097=q ^ (t+1):=by omega
    have hm:xpure .min2 [nv (q ^ t*q),nv 4097]=some (nv (q ^ (t+1))):=by rw [xp_min2N,h4]
    simp (disch:=omega) only [zA,zB,zC,zD,zF,zG,zH,↓reduceIte,vl,ht,h3,hm]
    exact hJ _ _ _ ⟨rfl,rfl,rfl⟩
  · rintro m i _ ⟨rfl,rfl,rfl⟩ J
    simp (disch:=omega) only [zA,zB,zC,zD,zF,zG,zH,↓reduceIte,vl]
    exact⟨rfl,hX⟩
theorem message_c {v:Value} {n k i:Nat} {A:List (List α)} (hv:RowR H v (evr cd A)) (hk:A.length=k) (hk2:k≤1000) (hi:i<q ^ k) (hqk:q ^ k≤4096) (hq0:0<q) :
    FN Tryz.prog 144 [codv q n v,nv i] H (fun r H'=>Pre H H'∧Row H' r ((dig q k i).map nv)):=by
  refine g144_of ?_
  unfold g144
  have ho:=hv.one'
  have hX:=Pre.new H [.cells [nv q,nv n,v] 29 none false]
  obtain⟨vs,hvs,hvl,_⟩:=(hv.pre hX).open
  obtain⟨vl,_,_,_⟩:=hvs.allV
  rw [hvl,hk] at vl
  have hmk:8*k≤281474976710656:=by omega
  have sk:xbin .sub 0 (nv k) (nv 1)=some (.int .i64 ((k:Int)-((1:Nat):Int))):=xbin_subZ (by omega) (by omega)
  have hqz:¬q=0:=by omega
  simp (disch:=omega) only [zA,zB,zC,zD,zF,zG,zH,↓reduceIte,ho,vl,xnew_makeN,hmk,sk]
  refine loopV2.nat k (fun t m j H'=>m=nv (i / q ^ t)∧j=.int .i64 ((k:Int)-1-t)∧H'=H++[.cells [nv q,nv n,v] 29 none false,.cells (tab k fun j=>if k-t≤j then nv (i / q ^ (k-1-j) % q) else nv 0) 3 none false]) ⟨by simp,by simp,?_⟩ ?_ ?_
  · congr 3
    rw [zeros_tab]
    congr 1
    exact tab_cong fun j hj=>by rw [if_neg (by omega)]
  · rintro t m j _ ht ⟨rfl,rfl,rfl⟩ J hJ
    have e1:((k:Int)-1-t)=((k-1-t:Nat):Int):=by omega
    rw [e1]
    have hg:xbin .geq 0 (.int .i64 ((k-1-t:Nat):Int)) (nv 0)=some (.bool true):=by rw [xbin_geq,decide_eq_true];omega
    have hix:k-1-t<k:=by omega
    have hle:i / q ^ t<4611686018427387904:=Nat.lt_of_le_of_lt (Nat.div_le_self _ _) (by omega)
    have ixp:xpure (.ixS 1) [.slice (some ⟨H.length+1,0,none⟩) k k,.int .i64 ((k-1-t:Nat):Int)]=some (.pointer (some ⟨H.length+1,k-1-t,none⟩)):=by
      show xpure (.ixS 1) [.slice (some ⟨H.length+1,0,none⟩) k k,nv (k-1-t)]=_
      rw [xp_ixSN hix];simp
    have st:=tab_st (H:=H++[.cells [nv q,nv n,v] 29 none false,.cells (tab k fun j=>if k-t≤j then nv (i / q ^ (k-1-j) % q) else nv 0) 3 none false]) (bl:=H.length+1) (n:=k) (f:=fun j=>if k-t≤j then nv (i / q ^ (k-1-j) % q) else nv 0) (g:=fun j=>if k-(t+1)≤j then nv (i / q ^ (k-1-j) % q) else nv 0) (k:=k-1-t) (et:=3) (op:=none) (v:=nv (i / q ^ t % q)) (by simp) hix rfl rfl (by
        show (if k-(t+1)≤k-1-t then nv (i / q ^ (k-1-(k-1-t)) % q) else nv 0)=_
        rw [if_pos (by omega),show k-1-(k-1-t)=t by omega]) (fun j hj hne=>by
        show (if k-(t+1)≤j then _ else _)=if k-t≤j then _ else _
        by_cases h:k-t≤j
        · rw [if_pos h,if_pos (by omega)]
        · rw [if_neg h,if_neg (by omega)])
    have e2:(H++[AB.cells [nv q,nv n,v] 29 none false,AB.cells (tab k fun j=>if k-t≤j then nv (i / q ^ (k-1-j) % q) else nv 0) 3 none false]).set (H.length+1) (AB.cells (tab k fun j=>if k-(t+1)≤j then nv (i / q ^ (k-1-j) % q) else nv 0) 3 none false)=H++[AB.cells [nv q,nv n,v] 29 none false,AB.cells (tab k fun j=>if k-(t+1)≤j then nv (i / q ^ (k-1-j) % q) else nv 0) 3 none false]:=by
      rw [List.set_append_right _ _ (by omega)];simp
    rw [e2] at st
    have sb:xbin .sub 0 (.int .i64 ((k-1-t:Nat):Int)) (nv 1)=some (.int .i64 ((k:Int)-1-((t+1:Nat):Int))):=by
      rw [xbin_subZ (by omega) (by omega)]
      congr 2
      omega
    simp (disch:=omega) only [zA,zB,zC,zD,zF,zG,zH,↓reduceIte,hg,hqz,ixp,st,sb]
    refine hJ _ _ _ ⟨?_,rfl,rfl⟩
    rw [Nat.div_div_eq_div_mul,Nat.pow_succ]
  · rintro m j _ ⟨rfl,rfl,rfl⟩ J
    have hg:xbin .geq 0 (.int .i64 ((k:Int)-1-k)) (nv 0)=some (.bool false):=by rw [xbin_geq,decide_eq_false];omega
    simp (disch:=omega) only [zA,zB,zC,zD,zF,zG,zH,↓reduceIte,hg]
    refine⟨Pre.new _ _,?_⟩
    have e3:(tab k fun j=>if k-k≤j then nv (i / q ^ (k-1-j) % q) else nv 0)=(dig q k i).map nv:=by
      refine List.ext_getElem (by simp [tab,dig_len]) fun j h1 h2=>?_
      have hj:j<k:=by simpa [tab] using h1
      have:=dig_get (q:=q) k i j hj
      rw [List.getD_eq_getElem?_getD,List.getElem?_eq_getElem (by rw [dig_len];exact hj),Option.getD_some] at this
      simp [tab,this]
    rw [e3]
    exact Row.of (b:=H.length+1) (e:=3) (op:=none) (r:=false) (by simp) (by rw [List.length_map,dig_len]) (Nat.le_refl _)
theorem words_c (Q:FQ α cd p e q blk) {v:Value} {n k:Nat} {A:List (List α)} (hv:RowR H v (evr cd A)) (hA:LRed n A) (hk:A.length=k) (hqk:q ^ k≤4096) (hn:n≤1000) :
    FN Tryz.prog 88 [codv q n v] H (fun r H'=>Pre H H'∧∃ w ws,r=.tuple [w,nv 0].toArray∧RowR H' w (evr cd ws)∧Wds A n q ws):=by
  have F:=Q.ok 0
  have hq2:=F.q2
  obtain⟨dec,hdec⟩:=dec_ex F
  have hW:=wds_of F hA hdec
  obtain⟨ws,hws⟩:∃ ws,ws=(List.range (q ^ A.length)).map fun i=>lcomb n A ((dig q A.length i).map dec):=⟨_,rfl⟩
  rw [←hws] at hW
  have hk2:k≤1000:=by rw [←hk];have:=hA.le;omega
  refine g88_of ?_
  unfold g88
  have ho:=hv.one'
  have hX:=Pre.new H [.cells [nv q,nv n,v] 29 none false]
  have hbig:¬4096<q ^ k:=by omega
  simp (disch:=omega) only [zA,zB,zC,zD,zF,zG,zH,↓reduceIte,ho]
  refine FZ.use (count_c (hv.pre hX) hk hk2 hqk (by omega)) ?_
  simp (disch:=omega) only [zA,zB,zC,zD,zF,zG,zH,↓reduceIte,hbig]
  obtain⟨HX,hHX⟩:∃ HX,HX=H++[.cells [nv q,nv n,v] 29 none false]:=⟨_,rfl⟩
  have g0:HX[H.length]? = some (.cells [nv q,nv n,v] 29 none false):=by rw [hHX];simp
  have hXl:HX.length=H.length+1:=by rw [hHX];simp
  have e0:H++[.cells [nv q,nv n,v] 29 none false,.cells [] 31 none false]=HX++[.cells [] 31 none false]:=by rw [hHX];simp
  rw [e0]
  rw [←hHX] at hX
  refine loopV2.nat (q ^ k) (fun i out j H'=>j=nv i∧Pre HX H'∧AccR HX H' out (evr cd (ws.take i)) 31) ⟨rfl,Pre.new _ _,?_⟩ ?_ ?_
  · have:=AccR.new (H0:=HX) (H:=HX) (Nat.le_refl _) (e:=31) (Y:=[])
    rw [hXl] at this
    exact this
  · rintro i out j H4 hi ⟨rfl,hp4,ho4⟩ J hJ
    have g4:=hp4.get g0
    have hv4:=hv.pre (hX.trans hp4)
    simp (disch:=omega) only [zA,zB,zC,zD,zF,zG,zH,↓reduceIte,g4]
    refine FZ.use (count_c hv4 hk hk2 hqk (by omega)) ?_
    simp (disch:=omega) only [zA,zB,zC,zD,zF,zG,zH,↓reduceIte,hi,g4]
    refine FZ.mono (message_c hv4 hk hk2 hi hqk (by omega)) ?_
    rintro r6 H6 ⟨hp6,hr6⟩
    have g6:=hp6.get g4
    have ed:(dig q k i).map nv=evs cd ((dig q k i).map dec):=by
      rw [evs,List.map_map]
      exact List.map_congr_left fun d hd=>by show nv d=nv (cd (dec d));rw [hdec d (dig_lt (by omega) _ _ d hd)]
    rw [ed] at hr6
    simp (disch:=omega) only [zA,zB,zC,zD,zF,zG,zH,↓reduceIte,g6]
    refine FZ.mono (rof_c Q (hv4.pre hp6) hr6 hA.len (by rw [List.length_map,dig_len,hk]) (by omega) hn) ?_
    rintro r7 H7 ⟨hp7,hr7⟩
    have hp47:=hp6.trans hp7
    have hwl:i<ws.length:=by rw [hW.len,hk];exact hi
    obtain⟨out',H9,e1,ho',hp',_⟩:=(ho4.pre hp47).app1 (by_:=24) (hp4.trans hp47).len hr7 (evs_plain _) (by simp;omega) (by simp;omega) (e2:=31)
    simp (disch:=(first|omega|(simp only [stLen]<;>omega)|(simp only [all_nv];done)|rfl)) only [zA,zB,zC,zD,zF,zG,zH,Nat.reduceEqDiff,Nat.reduceLT,Nat.reduceLeDiff,↓reduceIte,hr7.fill,e1]
    refine hJ _ _ _ ⟨rfl,hp' (hp4.trans hp47),?_⟩
    have e2:evr cd (ws.take (i+1))=evr cd (ws.take i)++[evs cd (lcomb n A ((dig q k i).map dec))]:=by
      show List.map _ _=List.map _ _++_
      rw [List.take_succ_eq_append_getElem hwl,List.map_append]
      simp [hws,hk]
    rw [e2];exact ho'
  · rintro out j H4 ⟨rfl,hp4,ho4⟩ J
    have g4:=hp4.get g0
    have hv4:=hv.pre (hX.trans hp4)
    simp (disch:=omega) only [zA,zB,zC,zD,zF,zG,zH,↓reduceIte,g4]
    refine FZ.use (count_c hv4 hk hk2 hqk (by omega)) ?_
    simp (disch:=omega) only [zA,zB,zC,zD,zF,zG,zH,↓reduceIte]
    rw [List.take_of_length_le (by rw [hW.len,hk];exact Nat.le_refl _)] at ho4
    exact⟨hX.trans hp4,out,ws,rfl,ho4.rowR,hW⟩
def lwt (x:List α):Nat:=(x.filter fun a=>decide (a≠Fl.zero)).length
theorem lwt_le (x:List α):lwt x≤x.length:=List.length_filter_le _ _
theorem weight_c (F:FOK α cd p e b c q blk) {v:Value} {x:List α} (hv:Row H v (evs cd x)) (hl:x.length≤1000) :
    FN Tryz.prog 40 [v] H (fun r H'=>r=nv (lwt x)∧H'=H):=by
  refine g40_of ?_
  unfold g40
  obtain⟨vl,vi,vd,_⟩:=hv.all Fl.zero
  refine loopV2.nat x.length (fun k m i H'=>m=nv (lwt (x.take k))∧i=nv k∧H'=H) ⟨rfl,rfl,rfl⟩ ?_ ?_
  · rintro k m i H hk ⟨rfl,rfl,rfl⟩ J hJ
    have hle:=lwt_le (x.take k)
    rw [List.length_take] at hle
    have e1:lwt (x.take (k+1))=lwt (x.take k)+if x.getD k Fl.zero≠Fl.zero then 1 else 0:=by
      unfold lwt
      rw [List.take_succ_eq_append_getElem hk,List.filter_append,List.length_append]
      congr 1
      simp only [List.getD_eq_getElem?_getD,List.getElem?_eq_getElem hk,Option.getD_some]
      by_cases h:x[k]=Fl.zero
      · rw [if_neg (fun h'=>h' h),List.filter_cons_of_neg (by simp [h])];rfl
      · rw [if_pos h,List.filter_cons_of_pos (by simp [h])];rfl
    simp (disch:=omega) only [zA,zB,zC,zD,zF,zG,zH,↓reduceIte,vl,hk]
    refine joinV1.via (fun m' H'=>m'=nv (lwt (x.take (k+1)))∧H'=H) ?_ ?_
    · intro J2 hJ2
      by_cases h0:x.getD k Fl.zero=Fl.zero
      · have h1:cd (x.getD k Fl.zero)=0:=(F.eq0 _).2 h0
        simp (disch:=omega) only [zA,zB,zC,zD,zF,zG,zH,↓reduceIte,vi,vd,hk,h1]
        refine hJ2 _ _ ⟨?_,rfl⟩
        rw [e1,if_neg (fun h=>h h0),Nat.add_zero]
      · have h1:¬cd (x.getD k Fl.zero)=0:=fun h=>h0 ((F.eq0 _).1 h)
        simp (disch:=omega) only [zA,zB,zC,zD,zF,zG,zH,↓reduceIte,vi,vd,hk,h1]
        refine hJ2 _ _ ⟨?_,rfl⟩
        rw [e1,if_pos h0]
    · rintro m' H ⟨rfl,rfl⟩
      simp (disch:=omega) only [zA,zB,zC,zD,zF,zG,zH,↓reduceIte]
      exact hJ _ _ _ ⟨rfl,rfl,rfl⟩
  · rintro m i _ ⟨rfl,rfl,rfl⟩ J
    simp (disch:=omega) only [zA,zB,zC,zD,zF,zG,zH,↓reduceIte,vl]
    rw [List.take_length]
end
end Go.Sim
