/- Part of the proof: TlA, TlB, ZZzXfT. -/
import Derived.Test.YtbfpepbfpebmmaaGreatTLinMoAToZTlA
import Derived.Test.YtbfpepbfpebmmaaGreatTLinMpG
import Derived.Test.YtbfpepbfpebmmaaGreatTLinMoYToMpD
import Derived.Test.YtbfpepbfpebmmaaGreatTLinShSToXfS
import Derived.Test.YtbfpepbfpebmmaaGreatTLinZShMixToZPfFieldI
import Derived.KernelRfl
set_option linter.all false
namespace Go.Sim
open Go Go.Proofs
section
variable {α:Type} [Fl α] [DecidableEq α] {cd:α→Nat} {p e b c q:Nat} {blk:AB} {H:AH}
theorem cadd2_c (F:FOK α cd p e b c q blk) {by_:Nat} {op:Option Nat} {vx:Value} {ys xs:List α} {a:α} (hb:H[b]? = some blk) (hbn:b≠by_) (hy:H[by_]? = some (.cells (evs cd ys) 3 op false)) (hl:xs.length=ys.length) (hn:ys.length≤1000)
    (hx:∀ H':AH,H.length≤H'.length→(∀ x,x<H.length→x≠by_→H'[x]? = H[x]?)→Row H' vx (evs cd xs)) :
    FN Tryz.prog 95 [fldv p e b e c,.slice (some ⟨by_,0,none⟩) ys.length ys.length,nv (cd a),vx] H (fun _ H'=>(∀ x,x<H.length→x≠by_→H'[x]? = H[x]?)∧H'[by_]? = some (.cells (evs cd (qfq ys (xs.map (Fl.mul a)))) 3 op false)∧H.length≤H'.length):=by
  refine g95_of ?_
  unfold g95
  have hlt:=qbr hy
  have hltb:=qbr hb
  by_cases h0:a=Fl.zero
  · have h0':cd a=0:=(F.eq0 _).2 h0
    have e1:qfq ys (xs.map (Fl.mul a))=ys:=by
      subst h0
      unfold qfq
      refine List.ext_getElem (by simp [hl]) fun j h1 h2=>?_
      simp [Fl.zero_mul,Fl.add_zero]
    simp (disch:=(first|omega|(simp only [qbf]<;>omega)|(simp only [qbd];done)|rfl)) only [zA,zB,zC,zD,zF,zG,zH,Nat.reduceEqDiff,Nat.reduceLT,Nat.reduceLeDiff,↓reduceIte,h0']
    rw [e1]
    exact⟨fun x hx _=>List.getElem?_append_left hx,by rw [List.getElem?_append_left hlt];exact hy,by simp⟩
  · have h0':¬cd a=0:=fun h=>h0 ((F.eq0 _).1 h)
    simp (disch:=(first|omega|(simp only [qbf]<;>omega)|(simp only [qbd];done)|rfl)) only [zA,zB,zC,zD,zF,zG,zH,Nat.reduceEqDiff,Nat.reduceLT,Nat.reduceLeDiff,↓reduceIte,h0']
    obtain⟨Z,hZ⟩:∃ Z,Z=qfq ys (xs.map (Fl.mul a)):=⟨_,rfl⟩
    have hZl:Z.length=ys.length:=by rw [hZ];simp [qfq,hl]
    have hZg:∀ k,k<ys.length→Z.getD k Fl.zero=Fl.add (ys.getD k Fl.zero) (Fl.mul a (xs.getD k Fl.zero)):=by
      intro k hk
      rw [hZ]
      simp [qfq,List.getElem?_zipWith,List.getD_eq_getElem?_getD,List.getElem?_eq_getElem hk,List.getElem?_eq_getElem (show k<xs.length by omega)]
    rw [←hZ]
    refine loopV1.nat ys.length (fun k i H'=>i=nv k∧(∀ x,x<H.length→x≠by_→H'[x]? = H[x]?)∧H'[by_]? = some (.cells (evs cd (Z.take k++ys.drop k)) 3 op false)∧H'[H.length]? = some (.cells [nv p,nv e,.slice (some ⟨b,0,none⟩) e c] 96 none false)∧H.length<H'.length) ?_ ?_ ?_
    · exact⟨rfl,fun x hx _=>List.getElem?_append_left hx,by rw [List.getElem?_append_left hlt];simpa using hy,by simp,by simp⟩
    · rintro k i H1 hk ⟨rfl,h1,h2,h3,h4⟩ J hJ
      have hb1:=(h1 b hltb hbn).trans hb
      have hrow:=hx H1 (by omega) h1
      have hkx:k<xs.length:=by omega
      obtain⟨_,ri,rd,_⟩:=hrow.all Fl.zero
      have hCl:(Z.take k++ys.drop k).length=ys.length:=by simp;omega
      have hCk:(Z.take k++ys.drop k).getD k Fl.zero=ys.getD k Fl.zero:=qk8 Fl.zero ys Z k (by omega)
      have hpre:=qk7 Fl.zero ys Z k (by omega) (by omega)
      have l1:=ld_ev (k:=k) h2 (by omega)
      rw [hCk] at l1
      have s1:=st_ev (k:=k) (x:=Fl.add (ys.getD k Fl.zero) (Fl.mul a (xs.getD k Fl.zero))) h2 (by omega)
      rw [←hZg k hk,hpre] at s1
      simp (disch:=(first|omega|(simp only [qbf]<;>omega)|(simp only [qbd];done)|rfl)) only [zA,zB,zC,zD,zF,zG,zH,Nat.reduceEqDiff,Nat.reduceLT,Nat.reduceLeDiff,↓reduceIte,hk,h3,l1,ri,rd,hkx]
      refine FZ.use (F.mul _ _ _ hb1) ?_
      simp (disch:=(first|omega|(simp only [qbf]<;>omega)|(simp only [qbd];done)|rfl)) only [zA,zB,zC,zD,zF,zG,zH,Nat.reduceEqDiff,Nat.reduceLT,Nat.reduceLeDiff,↓reduceIte,h3,l1]
      refine FZ.use (F.add _ _ _ hb1) ?_
      rw [←hZg k hk]
      simp (disch:=(first|omega|(simp only [qbf]<;>omega)|(simp only [qbd];done)|rfl)) only [zA,zB,zC,zD,zF,zG,zH,Nat.reduceEqDiff,Nat.reduceLT,Nat.reduceLeDiff,↓reduceIte,s1]
      refine hJ _ _ ⟨rfl,fun x hx hne=>by rw [List.getElem?_set_ne (Ne.symm hne)];exact h1 x hx hne,List.getElem?_set_self (qbr h2),by rw [List.getElem?_set_ne (by omega)];exact h3,by simpa using h4⟩
    · rintro i H1 ⟨rfl,h1,h2,h3,h4⟩ J
      simp (disch:=(first|omega|(simp only [qbf]<;>omega)|(simp only [qbd];done)|rfl)) only [zA,zB,zC,zD,zF,zG,zH,Nat.reduceEqDiff,Nat.reduceLT,Nat.reduceLeDiff,↓reduceIte]
      rw [List.take_of_length_le (by omega),List.drop_of_length_le (by omega),List.append_nil] at h2
      exact⟨h1,h2,by omega⟩
theorem dig_next {q:Nat} (hq:0<q) {i r a:Nat} (ha:a<q):dig q (i+1) (r*q+a)=dig q i r++[a]:=by
  show dig q i ((r*q+a) / q)++[(r*q+a) % q]=_
  rw [Nat.mul_comm r q,Nat.mul_add_div hq,Nat.div_eq_of_lt ha,Nat.add_zero,Nat.mul_add_mod,Nat.mod_eq_of_lt ha]
def qdf (n q:Nat) (A:List (List α)) (dec:Nat→α) (i r:Nat):List α:=qfz n A ((dig q i r).map dec) i
theorem qgf {n:Nat} {A:List (List α)} (hl:∀ x∈A,x.length=n) {dec:Nat→α} {i r:Nat} (hi:i≤A.length):(qdf n q A dec i r).length=n:=qd8 hl _ hi
theorem qrf {n:Nat} {A:List (List α)} {cs ds:List α}:∀ k,(∀ j,j<k→cs.getD j Fl.zero=ds.getD j Fl.zero)→qfz n A cs k=qfz n A ds k
  | 0,_=>rfl
  | k+1,h=>by
    show qcg _ _ _=qcg _ _ _
    rw [qrf k fun j hj=>h j (by omega),h k (by omega)]
theorem pword_next {n:Nat} {A:List (List α)} (hl:∀ x∈A,x.length=n) {dec:Nat→α} {i r a:Nat} (hq:0<q) (ha:a<q) (hi:i<A.length) :
    qdf n q A dec (i+1) (r*q+a)=qfq (qdf n q A dec i r) ((A.getD i []).map (Fl.mul (dec a))):=by
  unfold qdf
  rw [dig_next hq ha]
  have hdl:=qhn q i r
  have e1:qfz n A ((dig q i r++[a]).map dec) i=qfz n A ((dig q i r).map dec) i:=by
    refine qrf i fun j hj=>?_
    rw [List.map_append,List.getD_eq_getElem?_getD,List.getElem?_append_left (by rw [List.length_map,hdl];exact hj),←List.getD_eq_getElem?_getD]
  have e2:((dig q i r++[a]).map dec).getD i Fl.zero=dec a:=by
    rw [List.map_append,List.getD_eq_getElem?_getD,List.getElem?_append_right (by rw [List.length_map,hdl];omega)]
    simp [hdl]
  show qcg (qfz n A ((dig q i r++[a]).map dec) i) (((dig q i r++[a]).map dec).getD i Fl.zero) (A.getD i [])=_
  rw [e1,e2]
  exact lplus_more.symm
theorem getD_row {A:List (List α)} {i:Nat} (hi:i<A.length):(evr cd A).getD i []=evs cd (A.getD i []):=by
  simp [evr,List.getD_eq_getElem?_getD,List.getElem?_eq_getElem hi]
def qjt (bc by_ bo bf:Nat):Value:=.func (.func 153) #[] #[.pointer (some ⟨bc,0,none⟩),.pointer (some ⟨by_,0,none⟩),.pointer (some ⟨bo,0,none⟩),.pointer (some ⟨bf,0,none⟩)]
theorem from_c (F:FOK α cd p e b e q blk) {dec:Nat→α} (hd:∀ d,d<q→cd (dec d)=d) {n k l bc by_ bo bf:Nat} {v:Value} {vs:List Value} {A:List (List α)} (hl:∀ x∈A,x.length=n) (hk:A.length=k) (hk2:k≤1000) (hn:n≤1000) (hn0:0<n) (hq:q≤100)
    (I:Nat→(Nat→Prop)→AH→Prop)
    (hst:∀ t O H,I t O H→H[bc]? = some (.cells [nv q,nv n,v] 29 none false)∧RowX H v vs∧Rws H vs (evr cd A)∧H[by_]? = some (.cells [.func (.yield l) #[] #[]] 141 none false) ∧
      H[bo]? = some (.cells [nv p,nv e,.slice (some ⟨b,0,none⟩) e e] 96 none false)∧H[bf]? = some (.cells [qjt bc by_ bo bf] 147 none false)∧H[b]? = some blk∧¬O b)
    (hI:∀ t (O O':Nat→Prop) (H H':AH),I t O H→H.length≤H'.length→(∀ x,x<H.length→¬O x→H'[x]? = H[x]?)→(∀ x,O' x→(O x∨H.length≤x)∧x<H'.length)→I t O' H')
    (hO:∀ t (O:Nat→Prop) H x,I t O H→O x→x<H.length)
    (hy:∀ t O H bw op,t<q ^ k→I t O H→O bw→H[bw]? = some (.cells (evs cd (qdf n q A dec k t)) 3 op false)→YN Tryz.prog l [.slice (some ⟨bw,0,none⟩) n n] H (fun v H'=>v=.bool true∧I (t+1) O H'∧H.length≤H'.length∧∀ x,O x→H'[x]? = H[x]?)) :
    ∀ d i r O H bw op,i+d=k→r<q ^ i→I (r*q ^ d) O H→O bw→H[bw]? = some (.cells (evs cd (qdf n q A dec i r)) 3 op false) →
      FN Tryz.prog 153 [nv i,.slice (some ⟨bw,0,none⟩) n n,.pointer (some ⟨bc,0,none⟩),.pointer (some ⟨by_,0,none⟩),.pointer (some ⟨bo,0,none⟩),.pointer (some ⟨bf,0,none⟩)] H (fun v H'=>v=.bool true∧I ((r+1)*q ^ d) O H'∧H.length≤H'.length∧∀ x,O x→H'[x]? = H[x]?):=by
  have hq0:0<q:=by have:=F.q2;omega
  intro d
  induction d with
  | zero =>
    intro i r O H bw op hi hr hIt hbw hw
    have hik:i=k:=by omega
    subst hik
    refine g153_of ?_
    unfold g153
    obtain⟨f1,f2,f3,f4,f5,f6,f7,f8⟩:=hst _ _ _ hIt
    obtain⟨vl,_,_,_⟩:=f2.1.allV
    have hvl:vs.length=i:=by rw [f3.1];simp [evr,hk]
    rw [hvl] at vl
    simp (disch:=(first|omega|(simp only [qbf]<;>omega)|(simp only [qbd];done)|rfl)) only [zA,zB,zC,zD,zF,zG,zH,Nat.reduceEqDiff,Nat.reduceLT,Nat.reduceLeDiff,↓reduceIte,f1,vl,f4]
    rw [Nat.pow_zero,Nat.mul_one] at hIt ⊢
    refine YN.mono (hy r O H bw op hr hIt hbw hw) ?_
    rintro _ H1 ⟨rfl,h1,h2,h3⟩
    simp (disch:=(first|omega|(simp only [qbf]<;>omega)|(simp only [qbd];done)|rfl)) only [zA,zB,zC,zD,zF,zG,zH,Nat.reduceEqDiff,Nat.reduceLT,Nat.reduceLeDiff,↓reduceIte]
    exact⟨h1,h2,h3⟩
  | succ d ih =>
    intro i r O H bw op hi hr hIt hbw hw
    refine g153_of ?_
    unfold g153
    obtain⟨f1,f2,f3,f4,f5,f6,f7,f8⟩:=hst _ _ _ hIt
    obtain⟨vl,_,_,_⟩:=f2.1.allV
    have hvl:vs.length=k:=by rw [f3.1];simp [evr,hk]
    rw [hvl] at vl
    have hne:¬i=k:=by omega
    have hPl:=qgf (q:=q) (dec:=dec) (r:=r) hl (show i≤A.length by omega)
    have hrw:Row H (.slice (some ⟨bw,0,none⟩) n n) (evs cd (qdf n q A dec i r)):=Row.of hw (by simp [hPl]) (Nat.le_refl _)
    have hw0:evs cd (qdf n q A dec i r)≠[]:=fun h=>by
      have:=congrArg List.length h
      simp [hPl] at this
      omega
    simp (disch:=(first|omega|(simp only [qbf]<;>omega)|(simp only [qbd];done)|rfl)) only [zA,zB,zC,zD,zF,zG,zH,Nat.reduceEqDiff,Nat.reduceLT,Nat.reduceLeDiff,↓reduceIte,f1,vl,hne]
    refine FZ.mono (clone_c hrw hw0 (by simp [evs,one]) (by simp [hPl];omega)) ?_
    rintro _ H1 ⟨hp1,b1,hb1,rfl,op1,_,g1⟩
    have hO1:∀ x,O x→x<H.length:=fun x hx=>hO _ _ _ _ hIt hx
    obtain⟨O1,hO1d⟩:∃ O1:Nat→Prop,O1=fun x=>x=b1∨O x:=⟨_,rfl⟩
    have hI1:I (r*q ^ (d+1)) O1 H1:=hI _ O O1 H H1 hIt hp1.len (fun x hx _=>hp1 x hx) (fun x hx=>by
        rw [hO1d] at hx
        rcases hx with rfl|hx
        · exact⟨.inr hb1,qbr g1⟩
        · exact⟨.inl hx,Nat.lt_of_lt_of_le (hO1 x hx) hp1.len⟩)
    have hob1:O1 b1:=by rw [hO1d];exact .inl rfl
    have hoO:∀ x,O x→O1 x:=fun x hx=>by rw [hO1d];exact .inr hx
    have hbne:b1≠bw:=by have:=hO1 bw hbw;omega
    have hlen1:(evs cd (qdf n q A dec i r)).length=n:=by simp [hPl]
    rw [hlen1]
    have k1:=hp1.get f1
    simp (disch:=(first|omega|(simp only [qbf]<;>omega)|(simp only [qbd];done)|rfl)) only [zA,zB,zC,zD,zF,zG,zH,Nat.reduceEqDiff,Nat.reduceLT,Nat.reduceLeDiff,↓reduceIte,k1]
    refine loopV1.nat q (fun a j H'=>j=nv a∧I ((r*q+a)*q ^ d) O1 H'∧H.length≤H'.length∧(∀ x,O x→H'[x]? = H[x]?)∧∃ zs:List α,zs.length=n∧H'[b1]? = some (.cells (evs cd zs) 3 op1 false)) ?_ ?_ ?_
    · refine⟨rfl,?_,hp1.len,fun x hx=>hp1 x (hO1 x hx),_,hPl,g1⟩
      rw [Nat.add_zero,Nat.mul_assoc,Nat.mul_comm q,←Nat.pow_succ];exact hI1
    · rintro a j H3 ha ⟨rfl,hI3,hl3,ho3,zs,hzl,hz⟩ J hJ
      have hw3:H3[bw]? = some (.cells (evs cd (qdf n q A dec i r)) 3 op false):=(ho3 bw hbw).trans hw
      have hrw3:Row H3 (.slice (some ⟨bw,0,none⟩) n n) (evs cd (qdf n q A dec i r)):=Row.of hw3 (by simp [hPl]) (Nat.le_refl _)
      have ec:=cpy_row (e:=3) (m:=n) (hrw3.x hw0) hlen1 (by simp [evs,one]) hz (by simp [hzl])
      obtain⟨H4,hH4⟩:∃ H4,H4=H3.set b1 (.cells (evs cd (qdf n q A dec i r)) 3 op1 false):=⟨_,rfl⟩
      rw [←hH4] at ec
      have l4:H4.length=H3.length:=by rw [hH4];simp
      have k4:∀ x,x≠b1→H4[x]? = H3[x]?:=fun x hx=>by rw [hH4];exact List.getElem?_set_ne (Ne.symm hx)
      have g4:H4[b1]? = some (.cells (evs cd (qdf n q A dec i r)) 3 op1 false):=by rw [hH4];exact List.getElem?_set_self (qbr hz)
      clear hH4
      have hI4:I ((r*q+a)*q ^ d) O1 H4:=hI _ O1 O1 H3 H4 hI3 (by omega) (fun x hx hx1=>k4 x (fun h=>hx1 (h ▸ hob1))) (fun x hx=>⟨.inl hx,by have:=hO _ _ _ _ hI3 hx;omega⟩)
      obtain⟨f1,f2,f3,f4,f5,f6,f7,f8⟩:=hst _ _ _ hI4
      obtain⟨_,vi,vd,_⟩:=f2.1.allV
      rw [hvl] at vi vd
      have hik:i<k:=by omega
      have hda:=hd a ha
      have hcAl:(evr cd A).length=k:=by simp [evr,hk]
      have hrow:∀ H':AH,H4.length≤H'.length→(∀ x,x<H4.length→x≠b1→H'[x]? = H4[x]?)→Row H' (vs.getD i undef) (evs cd (A.getD i [])):=fun H' h1 h2=>by
        have hI':=hI _ O1 O1 H4 H' hI4 h1 (fun x hx hx1=>h2 x hx (fun h=>hx1 (h ▸ hob1))) (fun x hx=>⟨.inl hx,by have:=hO _ _ _ _ hI4 hx;omega⟩)
        have:=(hst _ _ _ hI').2.2.1.2 i (by omega)
        rwa [getD_row (by omega)] at this
      have hAl:=hl _ (getD_mem (l:=A) (k:=i) (d:=[]) (by omega))
      simp (disch:=(first|omega|(simp only [qbf]<;>omega)|(simp only [qbd];done)|rfl)) only [zA,zB,zC,zD,zF,zG,zH,Nat.reduceEqDiff,Nat.reduceLT,Nat.reduceLeDiff,↓reduceIte,ha,ec,f5,f1,vi,vd,hik,f6]
      rw [←hda]
      have hadd:=cadd2_c F (by_:=b1) (a:=dec a) f7 (fun h=>f8 (h ▸ hob1)) g4 (by rw [hAl,hPl]) (by omega) hrow
      rw [hPl] at hadd
      refine FZ.mono hadd ?_
      rintro _ H5 ⟨k5,g5,l5⟩
      rw [hda]
      have hI5:I ((r*q+a)*q ^ d) O1 H5:=hI _ O1 O1 H4 H5 hI4 l5 (fun x hx hx1=>k5 x hx (fun h=>hx1 (h ▸ hob1))) (fun x hx=>⟨.inl hx,by have:=hO _ _ _ _ hI4 hx;omega⟩)
      rw [←pword_next hl hq0 ha (by omega)] at g5
      have f6':=(hst _ _ _ hI5).2.2.2.2.2.1
      have hik1:i+1<4611686018427387904:=by omega
      simp (disch:=(first|omega|(simp only [qbf]<;>omega)|(simp only [qbd];done)|rfl)) only [zA,zB,zC,zD,zF,zG,zH,Nat.reduceEqDiff,Nat.reduceLT,Nat.reduceLeDiff,↓reduceIte,f6',hik1]
      unfold qjt
      have hrq:r*q+a<q ^ (i+1):=by
        rw [Nat.pow_succ]
        have:(r+1)*q≤q ^ i*q:=Nat.mul_le_mul_right q hr
        rw [Nat.succ_mul] at this
        omega
      refine FZ.mono (ih (i+1) (r*q+a) O1 H5 b1 op1 (by omega) hrq hI5 hob1 g5) ?_
      rintro _ H6 ⟨rfl,hI6,l6,k6⟩
      have ha1:a+1<4611686018427387904:=by omega
      simp (disch:=(first|omega|(simp only [qbf]<;>omega)|(simp only [qbd];done)|rfl)) only [zA,zB,zC,zD,zF,zG,zH,Nat.reduceEqDiff,Nat.reduceLT,Nat.reduceLeDiff,↓reduceIte,ha1]
      refine hJ _ _ ⟨rfl,hI6,by omega,fun x hx=>?_,_,?_,(k6 b1 hob1).trans g5⟩
      · have hx1:=hO1 x hx
        have hne':x≠b1:=by omega
        rw [k6 x (hoO x hx),k5 x (by omega) hne',k4 x hne',ho3 x hx]
      · rw [qgf hl (by omega)]
    · rintro j H3 ⟨rfl,hI3,hl3,ho3,_⟩ J
      simp (disch:=(first|omega|(simp only [qbf]<;>omega)|(simp only [qbd];done)|rfl)) only [zA,zB,zC,zD,zF,zG,zH,Nat.reduceEqDiff,Nat.reduceLT,Nat.reduceLeDiff,↓reduceIte]
      refine⟨?_,hl3,ho3⟩
      have hI7:=hI _ O1 O H3 H3 hI3 (Nat.le_refl _) (fun _ _ _=>rfl) (fun x hx=>⟨.inl (hoO x hx),hO _ _ _ _ hI3 (hoO x hx)⟩)
      rw [←Nat.succ_mul,Nat.mul_assoc,Nat.mul_comm q,←Nat.pow_succ] at hI7
      exact hI7
end
end Go.Sim

namespace Go.Sim
open Go Go.Proofs
section
variable {α:Type} [Fl α] [DecidableEq α] {cd:α→Nat} {p e b c q:Nat} {blk:AB} {H:AH}
theorem ccount_c {v:Value} {n k:Nat} {A:List (List α)} (hv:RowR H v (evr cd A)) (hk:A.length=k) (hk2:k≤1000) (hq:q ^ k≤4096) (hq0:0<q) :
    FN Tryz.prog 53 [codv q n v] H (fun r H'=>r=nv (q ^ k)∧H'=H):=by
  refine keep_gc (R:=fun r=>r=nv (q ^ k)) ?_
  refine g53_of ?_
  unfold g53
  have ho:=hv.one'
  have hX:=Pre.new H [.cells [nv q,nv n,v] 29 none false]
  obtain⟨vs,hvs,hvl,_⟩:=(hv.pre hX).open
  obtain⟨vl,_,_,_⟩:=hvs.allV
  rw [hvl,hk] at vl
  simp (disch:=(first|omega|(simp only [qbf]<;>omega)|(simp only [qbd];done)|rfl)) only [zA,zB,zC,zD,zF,zG,zH,Nat.reduceEqDiff,Nat.reduceLT,Nat.reduceLeDiff,↓reduceIte,ho,vl]
  refine loopV2.nat k (fun t m i H'=>m=nv (q ^ t)∧i=nv t∧H'=H++[.cells [nv q,nv n,v] 29 none false]) ⟨by simp,rfl,rfl⟩ ?_ ?_
  · rintro t m i _ ht ⟨rfl,rfl,rfl⟩ J hJ
    have h1:q ^ t*q=q ^ (t+1):=rfl
    have h2:q ^ (t+1)≤q ^ k:=Nat.pow_le_pow_right hq0 ht
    have h3:q ^ t*q<9223372036854775808:=by omega
    have h4:¬4096<q ^ t*q:=by omega
    have h5:0<q ^ t*q:=Nat.mul_pos (Nat.pow_pos hq0) hq0
    have h6:¬q ^ t*q<1:=by omega
    simp (disch:=(first|omega|(simp only [qbf]<;>omega)|(simp only [qbd];done)|rfl)) only [zA,zB,zC,zD,zF,zG,zH,Nat.reduceEqDiff,Nat.reduceLT,Nat.reduceLeDiff,↓reduceIte,ht,h3,h4,h6]
    exact hJ _ _ _ ⟨rfl,rfl,rfl⟩
  · rintro m i _ ⟨rfl,rfl,rfl⟩ J
    simp (disch:=(first|omega|(simp only [qbf]<;>omega)|(simp only [qbd];done)|rfl)) only [zA,zB,zC,zD,zF,zG,zH,Nat.reduceEqDiff,Nat.reduceLT,Nat.reduceLeDiff,↓reduceIte]
    exact⟨rfl,hX⟩
theorem cweight_c (F:FOK α cd p e b c q blk) {v:Value} {x:List α} (hv:Row H v (evs cd x)) (hl:x.length≤1000) :
    FN Tryz.prog 103 [v] H (fun r H'=>r=nv (lwt x)∧H'=H):=by
  refine g103_of ?_
  unfold g103
  obtain⟨vl,vi,vd,_⟩:=hv.all Fl.zero
  simp (disch:=(first|omega|(simp only [qbf]<;>omega)|(simp only [qbd];done)|rfl)) only [zA,zB,zC,zD,zF,zG,zH,Nat.reduceEqDiff,Nat.reduceLT,Nat.reduceLeDiff,↓reduceIte,vl]
  refine loopV2.nat x.length (fun k m i H'=>m=nv (lwt (x.take k))∧i=nv k∧H'=H) ⟨rfl,rfl,rfl⟩ ?_ ?_
  · rintro k m i H hk ⟨rfl,rfl,rfl⟩ J hJ
    have hle:=lwt_le (x.take k)
    rw [List.length_take] at hle
    have e1:lwt (x.take (k+1))=lwt (x.take k)+if x.getD k Fl.zero≠Fl.zero then 1 else 0:=by
      unfold lwt
      rw [List.take_succ_eq_append_getElem hk,List.filter_append,List.length_append]
      congr 1
      simp only [List.getD_eq_getElem?_getD,List.getElem?_eq_getElem hk,Option.getD_some]
      by_cases h:x[k]=Fl.zero
      · rw [if_neg (fun h'=>h' h),List.filter_cons_of_neg (by simp [h])];rfl
      · rw [if_pos h,List.filter_cons_of_pos (by simp [h])];rfl
    by_cases h0:x.getD k Fl.zero=Fl.zero
    · have h1:cd (x.getD k Fl.zero)=0:=(F.eq0 _).2 h0
      simp (disch:=(first|omega|(simp only [qbf]<;>omega)|(simp only [qbd];done)|rfl)) only [zA,zB,zC,zD,zF,zG,zH,Nat.reduceEqDiff,Nat.reduceLT,Nat.reduceLeDiff,↓reduceIte,vi,vd,hk,h1]
      refine hJ _ _ _ ⟨?_,rfl,rfl⟩
      rw [e1,if_neg (fun h=>h h0),Nat.add_zero]
    · have h1:¬cd (x.getD k Fl.zero)=0:=fun h=>h0 ((F.eq0 _).1 h)
      simp (disch:=(first|omega|(simp only [qbf]<;>omega)|(simp only [qbd];done)|rfl)) only [zA,zB,zC,zD,zF,zG,zH,Nat.reduceEqDiff,Nat.reduceLT,Nat.reduceLeDiff,↓reduceIte,vi,vd,hk,h1]
      refine hJ _ _ _ ⟨?_,rfl,rfl⟩
      rw [e1,if_pos h0]
  · rintro m i _ ⟨rfl,rfl,rfl⟩ J
    simp (disch:=(first|omega|(simp only [qbf]<;>omega)|(simp only [qbd];done)|rfl)) only [zA,zB,zC,zD,zF,zG,zH,Nat.reduceEqDiff,Nat.reduceLT,Nat.reduceLeDiff,↓reduceIte]
    first|done|(rw [List.take_of_length_le (Nat.le_refl _)])|skip
theorem csmall_c (Q:FQ α cd p e q blk) (hq:q≤16) {v:Value} {n k:Nat} {A:List (List α)} (hv:RowR H v (evr cd A)) (hA:LRed n A) (hn:n≤24) (hn0:1≤n) (hk:A.length=k) (hqk:q ^ k≤4096) :
    FN Tryz.prog 100 [codv q n v] H (fun r H'=>r=nv 0∧Pre H H'):=by
  refine g100_of ?_
  unfold g100
  have ho:=hv.one'
  have hX:=Pre.new H [.cells [nv q,nv n,v] 29 none false]
  have hle:=hA.le
  have hq2:=(Q.ok 0).q2
  simp (disch:=(first|omega|(simp only [qbf]<;>omega)|(simp only [qbd];done)|rfl)) only [zA,zB,zC,zD,zF,zG,zH,Nat.reduceEqDiff,Nat.reduceLT,Nat.reduceLeDiff,↓reduceIte,ho]
  refine FZ.mono (valid_c Q hq (hv.pre hX) hA hn hn0) ?_
  rintro _ H2 ⟨rfl,hp2⟩
  have g2:H2[H.length]? = some (.cells [nv q,nv n,v] 29 none false):=hp2.get (by simp)
  simp (disch:=(first|omega|(simp only [qbf]<;>omega)|(simp only [qbd];done)|rfl)) only [zA,zB,zC,zD,zF,zG,zH,Nat.reduceEqDiff,Nat.reduceLT,Nat.reduceLeDiff,↓reduceIte,g2,Bool.not_true]
  refine FZ.mono (ccount_c (hv.pre (hX.trans hp2)) hk (by omega) hqk (by omega)) ?_
  rintro _ _ ⟨rfl,rfl⟩
  have h4:¬4096<q ^ k:=by omega
  simp (disch:=(first|omega|(simp only [qbf]<;>omega)|(simp only [qbd];done)|rfl)) only [zA,zB,zC,zD,zF,zG,zH,Nat.reduceEqDiff,Nat.reduceLT,Nat.reduceLeDiff,↓reduceIte,h4]
  exact hX.trans hp2
theorem all1_c (F:FOK α cd p e b e q blk) {dec:Nat→α} (hd:∀ d,d<q→cd (dec d)=d) {n k l bc bo:Nat} {v:Value} {vs:List Value} {A:List (List α)} (hl:∀ x∈A,x.length=n) (hk:A.length=k) (hk2:k≤1000) (hn:n≤1000) (hn0:0<n) (hq:q≤100)
    (I:Nat→(Nat→Prop)→AH→Prop)
    (hbc:H[bc]? = some (.cells [nv q,nv n,v] 29 none false))
    (h0:∀ H':AH,Pre H H'→H'[H.length]? = some (.cells [.func (.yield l) #[] #[]] 141 none false)→H'[H.length+1]? = some (.cells [qjt bc H.length bo (H.length+1)] 147 none false)→H.length+3≤H'.length→I 0 (fun x=>x=H.length+2) H')
    (hst:∀ t O H',I t O H'→H'[bc]? = some (.cells [nv q,nv n,v] 29 none false)∧RowX H' v vs∧Rws H' vs (evr cd A)∧H'[H.length]? = some (.cells [.func (.yield l) #[] #[]] 141 none false) ∧
      H'[bo]? = some (.cells [nv p,nv e,.slice (some ⟨b,0,none⟩) e e] 96 none false)∧H'[H.length+1]? = some (.cells [qjt bc H.length bo (H.length+1)] 147 none false)∧H'[b]? = some blk∧¬O b)
    (hI:∀ t (O O':Nat→Prop) (H H':AH),I t O H→H.length≤H'.length→(∀ x,x<H.length→¬O x→H'[x]? = H[x]?)→(∀ x,O' x→(O x∨H.length≤x)∧x<H'.length)→I t O' H')
    (hO:∀ t (O:Nat→Prop) H x,I t O H→O x→x<H.length)
    (hy:∀ t O H bw op,t<q ^ k→I t O H→O bw→H[bw]? = some (.cells (evs cd (qdf n q A dec k t)) 3 op false)→YN Tryz.prog l [.slice (some ⟨bw,0,none⟩) n n] H (fun v H'=>v=.bool true∧I (t+1) O H'∧H.length≤H'.length∧∀ x,O x→H'[x]? = H[x]?)) :
    FN Tryz.prog 152 [.func (.yield l) #[] #[],.pointer (some ⟨bc,0,none⟩),.pointer (some ⟨bo,0,none⟩)] H (fun _ H'=>∃ O,I (q ^ k) O H'∧H.length≤H'.length):=by
  refine g152_of ?_
  unfold g152
  have hmk:8*n≤281474976710656:=by omega
  have c1:qbn (Value.func (.yield l) #[] #[])=[.func (.yield l) #[] #[]]:=rfl
  have fn1:qbc (.fn 153 0 4) [.pointer (some ⟨bc,0,none⟩),.pointer (some ⟨H.length,0,none⟩),.pointer (some ⟨bo,0,none⟩),.pointer (some ⟨H.length+1,0,none⟩)]=some (qjt bc H.length bo (H.length+1)):=rfl
  have g1:=qc4 hbc [AB.cells [.func (.yield l) #[] #[]] 141 none false,.cells [qjt bc H.length bo (H.length+1)] 147 none false]
  have s1:=qfm (H:=H++[AB.cells [.func (.yield l) #[] #[]] 141 none false,.cells [.nilFunc] 147 none false]) (bl:=H.length+1) (c:=[.nilFunc]) (e:=147) (op:=none) (o:=0) (v:=qjt bc H.length bo (H.length+1)) rfl rfl (by simp)
  have e1:(H++[AB.cells [.func (.yield l) #[] #[]] 141 none false,.cells [.nilFunc] 147 none false]).set (H.length+1) (.cells ([Value.nilFunc].set 0 (qjt bc H.length bo (H.length+1))) 147 none false)=H++[AB.cells [.func (.yield l) #[] #[]] 141 none false,.cells [qjt bc H.length bo (H.length+1)] 147 none false]:=by
    rw [List.set_append_right _ _ (by omega)];simp
  rw [e1] at s1
  simp (disch:=(first|omega|(simp only [qbf]<;>omega)|(simp only [qbd];done)|rfl)) only [zA,zB,zC,zD,zF,zG,zH,Nat.reduceEqDiff,Nat.reduceLT,Nat.reduceLeDiff,↓reduceIte,c1,fn1,s1,g1,qdw,hmk]
  obtain⟨H3,hH3⟩:∃ H3,H3=H++[AB.cells [.func (.yield l) #[] #[]] 141 none false,.cells [qjt bc H.length bo (H.length+1)] 147 none false,.cells ((List.replicate n 0).map nv) 3 none false]:=⟨_,rfl⟩
  have hp3:Pre H H3:=by rw [hH3];exact Pre.new _ _
  have hl3:H3.length=H.length+3:=by rw [hH3];simp
  have ez:(List.replicate n 0).map nv=evs cd (qdf n q A dec 0 0):=by
    unfold qdf qfz evs
    rw [List.map_replicate,List.map_replicate,F.zero]
  have gz:H3[H.length+2]? = some (.cells (evs cd (qdf n q A dec 0 0)) 3 none false):=by rw [hH3,←ez];simp
  have hI0:=h0 H3 hp3 (by rw [hH3];simp) (by rw [hH3];simp) (by omega)
  rw [←hH3]
  clear hH3 s1 e1 fn1
  unfold qjt
  have key:=from_c F hd hl hk hk2 hn hn0 hq I hst hI hO hy k 0 0 (fun x=>x=H.length+2) H3 (H.length+2) none (by omega) (by simp) (by rw [Nat.zero_mul];exact hI0) rfl gz
  refine FZ.mono key ?_
  rintro _ H4 ⟨rfl,h1,h2,_⟩
  rw [Nat.zero_add,Nat.one_mul] at h1
  exact⟨_,h1,by omega⟩
theorem allf_c (Q:FQ α cd p e q blk) (hq:q≤16) {v:Value} {n:Nat} (ho:one v=true) :
    FN Tryz.prog 101 [codv q n v] H (fun r H'=>Pre H H'∧∃ b bo,r=.func (.func 152) #[] #[.pointer (some ⟨H.length,0,none⟩),.pointer (some ⟨bo,0,none⟩)]∧H.length<H'.length∧H'[H.length]? = some (.cells [nv q,nv n,v] 29 none false) ∧
      H'[bo]? = some (.cells [nv p,nv e,.slice (some ⟨b,0,none⟩) e e] 96 none false)∧H'[b]? = some blk∧H.length≤b∧H.length≤bo):=by
  refine g101_of ?_
  unfold g101
  have hX:=Pre.new H [.cells [nv q,nv n,v] 29 none false]
  simp (disch:=(first|omega|(simp only [qbf]<;>omega)|(simp only [qbd];done)|rfl)) only [zA,zB,zC,zD,zF,zG,zH,Nat.reduceEqDiff,Nat.reduceLT,Nat.reduceLeDiff,↓reduceIte,ho]
  refine FZ.mono (newOver_c Q hq) ?_
  rintro _ H2 ⟨hp2,b,rfl,hb,hbl⟩
  have g2:H2[H.length]? = some (.cells [nv q,nv n,v] 29 none false):=hp2.get (by simp)
  have s4:=qc7 (H:=H2++[.cells [nv 0,nv 0,.slice none 0 0] 96 none false]) (bl:=H2.length) (x:=nv p) (y:=nv e) (z:=.slice (some ⟨b,0,none⟩) e e) (c0:=nv 0) (c1:=nv 0) (c2:=.slice none 0 0) (e:=96) (op:=none) rfl rfl rfl
  rw [qdn] at s4
  have fn1:qbc (.fn 152 0 2) [.pointer (some ⟨H.length,0,none⟩),.pointer (some ⟨H2.length,0,none⟩)]=some (.func (.func 152) #[] #[.pointer (some ⟨H.length,0,none⟩),.pointer (some ⟨H2.length,0,none⟩)]):=rfl
  simp (disch:=(first|omega|(simp only [qbf]<;>omega)|(simp only [qbd];done)|rfl)) only [zA,zB,zC,zD,zF,zG,zH,Nat.reduceEqDiff,Nat.reduceLT,Nat.reduceLeDiff,↓reduceIte,s4,fn1]
  have hp4:=Pre.new H2 [.cells [nv p,nv e,.slice (some ⟨b,0,none⟩) e e] 96 none false]
  exact⟨(hX.trans hp2).trans hp4,b,H2.length,rfl,by have:=hp2.len;simp at this ⊢;omega,hp4.get g2,by simp,hp4.get hb,by simp at hbl;omega,by have:=hp2.len;simp at this;omega⟩
end
end Go.Sim

set_option maxRecDepth 100000
namespace Go.Sim
open Go Go.Proofs
def xf52:XF:=⟨21,[(.tmp 2),(.tmp 3)],(.seq (.reg [eS 0 1 (.box 29) [pT 0],eS 1 2 .mov [(.const (.slice none 0 0))],eS 2 3 .mov [pC (nv 0)]]) (.seq (.seq (.reg [eS 0 7 (.ld (some 3)) [pT 1],eS 1 8 .call [(.func 100),pT 7],eS 2 4 .mov [pT 8]]) (.seq (.reg [eS 0 9 .mov [pT 4],eS 1 10 (.bin .neq 0) [pT 9,pC (nv 0)]]) (.cond (.tmp 10) (.seq (.reg [eS 0 11 .mov [pT 4],eS 1 2 .mov [(.const (.slice none 0 0))],eS 2 3 .mov [pT 11]]) .ret) .skip))) (.seq (.reg [eS 0 5 (.new [(.slice none 0 0)] 27) []]) (.seq (.seq (.reg [eS 0 12 (.ld (some 3)) [pT 1],eS 1 13 .call [(.func 101),pT 12]]) (.block 0 (.range (.tmp 13) #[14] (.reg [eS 0 6 .mov [pT 14]]) (.block 1 (.reg [⟨none,(.ld none),[pT 5],(some 15),0,true,[]⟩,eS 1 16 .mov [pT 6],⟨none,.call,[(.func 102),pT 16],(some 17),2,false,[0]⟩,⟨none,(.bsl [(.slice none 0 0)] 1 [(0,1)] 31),[pT 17],(some 18),3,false,[0]⟩,eS 4 19 (.app 31 1 24) [pT 15,pT 18],eN 5 (.st 1) [pT 5,pT 19]]))))) (.seq (.reg [eS 0 20 (.ld none) [pT 5],eS 1 2 .mov [pT 20],eS 2 3 .mov [pC (nv 0)]]) .ret)))))⟩
theorem xf52_ok:qb3 Tryz.prog 52=some xf52:=by kernel_rfl
def xf212:XF:=⟨48,[],(.seq (.reg [eS 0 8 (.ld none) [pT 1],eS 1 9 (.ld none) [pT 2],eS 2 10 (.ld none) [pT 3],eS 3 11 (.bin .sub 0) [pT 9,pT 10],eS 4 12 (.bin .sub 0) [pT 8,pT 11],eS 5 13 .max2 [pC (nv 0),pT 12],eS 6 6 .mov [pT 13]]) (.block 0 (.loop (.seq (.seq (.reg [eS 0 14 .mov [pT 6],eS 1 15 (.ld none) [pT 1],eS 2 16 (.ld none) [pT 3],eS 3 17 .min2 [pT 15,pT 16],eS 4 18 (.bin .leq 0) [pT 14,pT 17]]) (.cond (.tmp 18) .skip (.exit 0))) (.seq (.block 1 (.seq (.reg [eS 0 21 (.ld none) [pT 4],eS 1 22 (.bin .sub 0) [pT 21,pC (nv 1)],eS 2 23 (.ld none) [pT 1],eS 3 24 .mov [pT 6],eS 4 25 (.bin .sub 0) [pT 23,pT 24],⟨none,(.ld none),[pT 3],(some 27),6,true,[]⟩,eS 7 28 .mov [pT 6],⟨none,(.ld none),[pT 2],(some 31),10,true,[]⟩,⟨none,(.ld none),[pT 3],(some 32),11,true,[]⟩,eS 12 33 (.bin .sub 0) [pT 31,pT 32],⟨none,(.ld none),[pT 1],(some 34),13,true,[]⟩,eS 14 35 .mov [pT 6],eS 15 36 (.bin .sub 0) [pT 34,pT 35],⟨none,.call,[(.func 158),pT 22,pT 25],(some 26),5,false,[13,11,10,6]⟩,⟨none,.call,[(.func 213),pT 27,pT 28],(some 29),8,false,[13,11,10]⟩,eS 9 30 (.bin .mul 0) [pT 26,pT 29],eS 16 37 .call [(.func 213),pT 33,pT 36],eS 17 38 (.bin .mul 0) [pT 30,pT 37],eS 18 7 .mov [pT 38]]) (.seq (.seq (.reg [eS 0 39 .mov [pT 6],eS 1 40 (.bin .rem 0) [pT 39,pC (nv 2)],eS 2 41 (.bin .eql 0) [pT 40,pC (nv 1)]]) (.cond (.tmp 41) (.reg [eS 0 42 .mov [pT 7],eS 1 43 (.un .neg) [pT 42],eS 2 7 .mov [pT 43]]) .skip)) (.seq (.reg [eS 0 44 .mov [pT 0],eS 1 45 .mov [pT 7],eS 2 46 .call [pT 44,pT 45],eS 3 47 (.un .not) [pT 46]]) (.cond (.tmp 47) .ret .skip))))) (.reg [eS 0 19 .mov [pT 6],eS 1 20 (.bin .add 0) [pT 19,pC (nv 1)],eS 2 6 .mov [pT 20]]))))))⟩
theorem xf212_ok:qb3 Tryz.prog 212=some xf212:=by kernel_rfl
def xf54:XF:=⟨27,[(.tmp 2),(.tmp 3)],(.seq (.reg [eS 0 1 (.box 29) [pT 0],eS 1 2 .mov [(.const (.slice none 0 0))],eS 2 3 .mov [pC (nv 0)]]) (.seq (.seq (.reg [eS 0 7 (.ld (some 3)) [pT 1],eS 1 8 .call [(.func 100),pT 7],eS 2 4 .mov [pT 8]]) (.seq (.reg [eS 0 9 .mov [pT 4],eS 1 10 (.bin .neq 0) [pT 9,pC (nv 0)]]) (.cond (.tmp 10) (.seq (.reg [eS 0 11 .mov [pT 4],eS 1 2 .mov [(.const (.slice none 0 0))],eS 2 3 .mov [pT 11]]) .ret) .skip))) (.seq (.reg [eS 0 12 (.fld 1) [pT 1],eS 1 13 (.ld none) [pT 12],eS 2 14 (.bin .add 0) [pT 13,pC (nv 1)],eS 3 15 (.make (nv 0) 1 8 3) [pT 14,pT 14],eS 4 5 (.new [(.slice none 0 0)] 31) [],eN 5 (.st 1) [pT 5,pT 15]]) (.seq (.seq (.reg [eS 0 16 (.ld (some 3)) [pT 1],eS 1 17 .call [(.func 101),pT 16]]) (.block 0 (.range (.tmp 17) #[18] (.reg [eS 0 6 .mov [pT 18]]) (.block 1 (.reg [⟨none,(.ld none),[pT 5],(some 19),0,true,[]⟩,eS 1 20 .mov [pT 6],⟨none,.call,[(.func 103),pT 20],(some 21),2,false,[0]⟩,eS 3 22 (.ixS 1) [pT 19,pT 21],eS 4 23 (.ld none) [pT 22],eS 5 24 (.bin .add 0) [pT 23,pC (nv 1)],eS 6 25 (.ixS 1) [pT 19,pT 21],eN 7 (.st 1) [pT 25,pT 24]]))))) (.seq (.reg [eS 0 26 (.ld none) [pT 5],eS 1 2 .mov [pT 26],eS 2 3 .mov [pC (nv 0)]]) .ret)))))⟩
theorem xf54_ok:qb3 Tryz.prog 54=some xf54:=by kernel_rfl
def xf194:XF:=⟨10,[(.tmp 8)],(.seq (.reg [eS 0 4 (.box 3) [pT 0],eS 1 5 (.box 3) [pT 1],eS 2 6 (.box 3) [pT 2],eS 3 7 (.box 3) [pT 3],eS 4 8 .mov [(.const .nilFunc)]]) (.seq (.reg [eS 0 9 (.fn 212 0 4) [pT 6,pT 5,pT 7,pT 4],eS 1 8 .mov [pT 9]]) .ret))⟩
theorem xf194_ok:qb3 Tryz.prog 194=some xf194:=by kernel_rfl
def xf159:XF:=⟨21,[(.tmp 8)],(.seq (.reg [eS 0 8 .mov [pC (nv 0)]]) (.seq (.reg [eS 0 9 (.new [(nv 0)] 3) [],eN 1 (.st 1) [pT 9,pC (nv 0)]]) (.seq (.seq (.reg [eS 0 11 .mov [pT 0],eS 1 12 .mov [pT 1],eS 2 13 .mov [pT 2],eS 3 14 .mov [pT 3],eS 4 15 .call [(.func 194),pT 11,pT 12,pT 13,pT 14]]) (.block 0 (.range (.tmp 15) #[16] (.reg [eS 0 10 .mov [pT 16]]) (.block 1 (.reg [eS 0 17 (.ld none) [pT 9],eS 1 18 .mov [pT 10],eS 2 19 (.bin .add 0) [pT 17,pT 18],eN 3 (.st 1) [pT 9,pT 19]]))))) (.seq (.reg [eS 0 20 (.ld none) [pT 9],eS 1 8 .mov [pT 20]]) .ret))))⟩
theorem xf159_ok:qb3 Tryz.prog 159=some xf159:=by kernel_rfl
end Go.Sim
