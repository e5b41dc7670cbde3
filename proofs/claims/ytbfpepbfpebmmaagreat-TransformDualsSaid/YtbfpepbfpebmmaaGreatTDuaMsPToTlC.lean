/- Part of the proof: MsP, MsA, TlC. -/
import Derived.Test.YtbfpepbfpebmmaaGreatTDuaMpG
import Derived.Test.YtbfpepbfpebmmaaGreatTDuaZSpX5ToMpD
import Derived.Test.YtbfpepbfpebmmaaGreatTDuaMoAToZSpX3
import Derived.Test.YtbfpepbfpebmmaaGreatTDuaMpL
import Derived.Test.YtbfpepbfpebmmaaGreatTDuaTlAToZZzXfT
import Derived.Test.YtbfpepbfpebmmaaGreatTDuaShSToXfS
import Derived.Test.YtbfpepbfpebmmaaGreatTDuaZShMixToZPfFieldI
import Derived.KernelRfl
import Derived.Test.YtbfpepbfpebmmaaGreatTDuaSimSTToShC
set_option linter.all false
namespace Go.Sim
section
variable {α:Type} [Fl α] [DecidableEq α]
def vwt:Nat→Vc α→Nat
  | 0,_=>0
  | n+1,v=>vwt n v+if v n=Fl.zero then 0 else 1
theorem vwt_succ (n:Nat) (v:Vc α):vwt (n+1) v=vwt n v+if v n=Fl.zero then 0 else 1:=rfl
theorem vwt_le (v:Vc α):∀ n,vwt n v≤n
  | 0=>Nat.le_refl _
  | n+1=>by have:=vwt_le v n;unfold vwt;split<;>omega
theorem vwt_cong {u v:Vc α}:∀ n,(∀ j,j<n→u j=v j)→vwt n u=vwt n v
  | 0,_=>rfl
  | n+1,h=>by unfold vwt;rw [vwt_cong n fun j hj=>h j (by omega),h n (by omega)]
theorem vwt_zero {v:Vc α}:∀ {n:Nat},vwt n v=0↔∀ j,j<n→v j=Fl.zero
  | 0=>⟨fun _ j h=>absurd h (Nat.not_lt_zero _),fun _=>rfl⟩
  | n + 1=>by
    unfold vwt
    constructor
    · intro h j hj
      by_cases h0:v n=Fl.zero
      · rw [if_pos h0] at h
        by_cases hn:j=n
        · rw [hn];exact h0
        · exact vwt_zero.1 (by omega) j (by omega)
      · rw [if_neg h0] at h;omega
    · intro h
      rw [if_pos (h n (by omega)),vwt_zero.2 fun j hj=>h j (by omega)]
theorem lwt_vwt:∀ (n:Nat) (x:List α),x.length=n→lwt x=vwt n (toV x):=by
  have key:∀ (n:Nat) (x:List α),n≤x.length→lwt (x.take n)=vwt n (toV x):=by
    intro n x
    induction n with
    | zero=>intro _;simp [lwt,vwt]
    | succ n ih =>
      intro hn
      have ih:=ih (by omega)
      have hlt:n<x.length:=by omega
      have e1:lwt (x.take (n+1))=lwt (x.take n)+if x.getD n Fl.zero=Fl.zero then 0 else 1:=by
        unfold lwt
        rw [List.take_succ_eq_append_getElem hlt,List.filter_append,List.length_append]
        congr 1
        simp only [List.getD_eq_getElem?_getD,List.getElem?_eq_getElem hlt,Option.getD_some]
        by_cases h:x[n]=Fl.zero
        · rw [if_pos h,List.filter_cons_of_neg (by simp [h])];rfl
        · rw [if_neg h,List.filter_cons_of_pos (by simp [h])];rfl
      rw [e1,ih];rfl
  intro n x hx
  have:=key n x (by omega)
  rwa [List.take_of_length_le (by omega)] at this
def VLst (S:Vc α→Prop) (n d:Nat):Prop:=0<d∧(∃ v,S v∧vwt n v=d)∧∀ v,S v→vwt n v≠0→d≤vwt n v
def Lst (A:List (List α)) (n d:Nat):Prop:=(A=[]∧d=0)∨VLst (LSpan A) n d
end
end Go.Sim

namespace Go.Sim
open Go Go.Proofs
section
variable {α:Type} [Fl α] [DecidableEq α] {cd:α→Nat} {p e b c q:Nat} {blk:AB} {H:AH}
def wct (ws:List (List α)) (j:Nat):Nat:=(ws.filter fun x=>decide (lwt x=j)).length
theorem wct_le (ws:List (List α)) (j:Nat):wct ws j≤ws.length:=List.length_filter_le _ _
theorem wct_take {ws:List (List α)} {k:Nat} (hk:k<ws.length) (j:Nat):wct (ws.take (k+1)) j=wct (ws.take k) j+if lwt (ws.getD k [])=j then 1 else 0:=by
  unfold wct
  rw [List.take_succ_eq_append_getElem hk,List.filter_append,List.length_append,qcj hk]
  congr 1
  by_cases h:lwt ws[k]=j<;>simp [h]
end
end Go.Sim

namespace Go.Sim
open Go Go.Proofs
section
variable {α:Type} [Fl α] [DecidableEq α] {cd:α→Nat} {p e b c q:Nat} {blk:AB} {H:AH}
def qcm (n q:Nat) (A:List (List α)) (dec:Nat→α):List (List α):=(List.range (q ^ A.length)).map fun i=>qfb n q A dec A.length i
theorem qh2 (F:FOK α cd p e b c q blk) {n:Nat} {A:List (List α)} (hA:LRed n A) {dec:Nat→α} (hd:∀ d,d<q→cd (dec d)=d):Wds A n q (qcm n q A dec):=wds_of F hA hd
theorem qmk {n:Nat} {A:List (List α)} {dec:Nat→α}:(qcm n q A dec).length=q ^ A.length:=by simp [qcm]
theorem cwords_get {n t:Nat} {A:List (List α)} {dec:Nat→α} (ht:t<q ^ A.length):(qcm n q A dec).getD t []=qfb n q A dec A.length t:=by
  simp [qcm,List.getD_eq_getElem?_getD,List.getElem?_range ht]
structure Iwt (H H4:AH) (n q ob bx bc bo:Nat) (A:List (List α)) (dec:Nat→α) (L:ALoop) (t:Nat) (O:Nat→Prop) (H':AH):Prop where
  out:H'[ob]? = some (.cells (tab (n+1) fun j=>nv (wct ((qcm n q A dec).take t) j)) 3 none false)
  ds:H'[H4.length]? = some (.defs (some []))
  lp:H'[H4.length+1]? = some (.loop L)
  old:∀ x,x<H4.length→x≠ob→H'[x]? = H4[x]?
  len:H4.length+4≤H'.length
  yb:H'[H4.length+2]? = some (.cells [.func (.yield (H4.length+1)) #[] #[]] 141 none false)
  fb:H'[H4.length+3]? = some (.cells [qmf bc (H4.length+2) bo (H4.length+3)] 147 none false)
  own:∀ x,O x→H4.length+4≤x∧x<H'.length
theorem cweights_c (Q:FQ α cd p e q blk) (hq:q≤16) {v:Value} {n k:Nat} {A:List (List α)} (hv:RowR H v (evr cd A)) (hA:LRed n A) (hk:A.length=k) (hqk:q ^ k≤4096) (hn:n≤24) (hn0:1≤n) :
    FN Tryz.prog 54 [codv q n v] H (fun r H'=>Pre H H'∧∃ w ws,r=.tuple [w,nv 0].toArray∧Row H' w (tab (n+1) fun j=>nv (wct ws j))∧Wds A n q ws):=by
  have F0:=Q.ok 0
  obtain⟨dec,hd⟩:=dec_ex F0
  refine FN.of_compZ qbq xf54_ok (Nat.le_of_ble_eq_true rfl) ?_
  have ho:=hv.one'
  have hX:=Pre.new H [.cells [nv q,nv n,v] 29 none false]
  simp (disch:=(first|omega|(simp only [List.length_map];omega)|(simp only [qbj]<;>omega)|(simp only [qbd];done)|rfl)) only [↓qbk,zC,zD,zF,zG,zH,Nat.reduceEqDiff,Nat.reduceLT,Nat.reduceLeDiff,↓reduceIte,xf54,ho]
  refine FZ.mono (csmall_c Q hq (hv.pre hX) hA hn hn0 hk hqk) ?_
  rintro _ H2 ⟨rfl,hp2⟩
  have g2:H2[H.length]? = some (.cells [nv q,nv n,v] 29 none false):=hp2.get (by simp)
  have hmk:8*(n+1)≤281474976710656:=by omega
  obtain⟨H3,hH3⟩:∃ H3,H3=H2++[AB.cells ((List.replicate (n+1) 0).map nv) 3 none false,.cells [.slice (some ⟨H2.length,0,none⟩) (n+1) (n+1)] 31 none false]:=⟨_,rfl⟩
  have g3:(H2++[AB.cells ((List.replicate (n+1) 0).map nv) 3 none false,.cells [.slice (some ⟨H2.length,0,none⟩) (n+1) (n+1)] 31 none false])[H.length]? = some (.cells [nv q,nv n,v] 29 none false):=qjm g2 _
  have hlt:=qbs g2
  simp (disch:=(first|omega|(simp only [List.length_map];omega)|(simp only [qbj]<;>omega)|(simp only [qbd];done)|rfl)) only [↓qbk,zC,zD,zF,zG,zH,Nat.reduceEqDiff,Nat.reduceLT,Nat.reduceLeDiff,↓reduceIte,g2,hmk,qds,g3]
  rw [←hH3] at g3 ⊢
  have hp3:Pre H H3:=by rw [hH3];exact (hX.trans hp2).trans (Pre.new _ _)
  have o3:H3[H2.length]? = some (.cells (tab (n+1) fun j=>nv (wct ((qcm n q A dec).take 0) j)) 3 none false):=by rw [hH3,qpj];simp [wct]
  have b3:H3[H2.length+1]? = some (.cells [.slice (some ⟨H2.length,0,none⟩) (n+1) (n+1)] 31 none false):=by rw [hH3];simp
  have hl3:H3.length=H2.length+2:=by rw [hH3];simp
  clear hH3
  refine FZ.mono (allf_c Q hq ho) ?_
  rintro _ H4 ⟨hp4,b,bo,rfl,hl4,bc4,bo4,bb4,hbl,hbol⟩
  have o4:=hp4.get o3
  have b4:=hp4.get b3
  have hp04:=hp3.trans hp4
  obtain⟨vs,hvs,hvr⟩:=hv
  have hvl:vs.length=A.length:=by rw [hvr.1];simp [evr]
  have F:=Q.ok b
  refine X_gen (fun s H'=>s.env 5=.pointer (some ⟨H2.length+1,0,none⟩)∧s.env 17=.func (.func 152) #[] #[.pointer (some ⟨H3.length,0,none⟩),.pointer (some ⟨bo,0,none⟩)]∧s.ds=[]∧H'=H4) ?_ ?_
  · simp (disch:=(first|omega|(simp only [List.length_map];omega)|(simp only [qbj]<;>omega)|(simp only [qbd];done)|rfl)) only [↓qbk,zC,zD,zF,zG,zH,Nat.reduceEqDiff,Nat.reduceLT,Nat.reduceLeDiff,↓reduceIte]
  rintro s H1 ⟨e5,e17,eds,rfl⟩
  refine qqh (f:=.tmp 17) (g:=152) rfl e17 ?_
  intro assign body hA' hB'
  obtain⟨L,hL⟩:∃ L,L=qbv 27 s #[18] assign body H1.length:=⟨_,rfl⟩
  rw [←hL]
  have hI:∀ t (O O':Nat→Prop) (Ha Hb:AH),Iwt H H1 n q H2.length (H2.length+1) H3.length bo A dec L t O Ha→Ha.length≤Hb.length→(∀ x,x<Ha.length→¬O x→Hb[x]? = Ha[x]?)→(∀ x,O' x→(O x∨Ha.length≤x)∧x<Hb.length)→Iwt H H1 n q H2.length (H2.length+1) H3.length bo A dec L t O' Hb:=fun t O O' Ha Hb h hl hk ho'=>by
    have hno:∀ x,x<H1.length+4→¬O x:=fun x hx h1=>by have:=(h.own x h1).1;omega
    have hll:=h.len
    refine⟨?_,?_,?_,fun x hx hne=>?_,by omega,?_,?_,fun x hx=>?_⟩
    · rw [hk _ (qbs h.out) (hno _ (by have:=qbs o4;omega))];exact h.out
    · rw [hk _ (by omega) (hno _ (by omega))];exact h.ds
    · rw [hk _ (by omega) (hno _ (by omega))];exact h.lp
    · rw [hk _ (by omega) (hno _ (by omega))];exact h.old x hx hne
    · rw [hk _ (by omega) (hno _ (by omega))];exact h.yb
    · rw [hk _ (by omega) (hno _ (by omega))];exact h.fb
    · obtain⟨h1,h2⟩:=ho' x hx
      rcases h1 with h1|h1
      · have:=h.own x h1;omega
      · omega
  have hst:∀ t (O:Nat→Prop) (H':AH),Iwt H H1 n q H2.length (H2.length+1) H3.length bo A dec L t O H'→H'[H3.length]? = some (.cells [nv q,nv n,v] 29 none false)∧RowX H' v vs∧Rws H' vs (evr cd A)∧H'[H1.length+2]? = some (.cells [.func (.yield (H1.length+1)) #[] #[]] 141 none false) ∧
      H'[bo]? = some (.cells [nv p,nv e,.slice (some ⟨b,0,none⟩) e e] 96 none false)∧H'[H1.length+3]? = some (.cells [qmf H3.length (H1.length+2) bo (H1.length+3)] 147 none false)∧H'[b]? = some blk∧¬O b:=fun t O H' h=>by
    have hp:Pre H H':=fun x hx=>by rw [h.old x (by have:=hp04.len;omega) (by omega)];exact hp04 x hx
    refine⟨(h.old _ (by omega) (by omega)).trans bc4,hvs.pre hp,hvr.pre hp,h.yb,(h.old _ (qbs bo4) (by omega)).trans bo4,h.fb,(h.old _ (qbs bb4) (by omega)).trans bb4,fun h1=>?_⟩
    have:=(h.own b h1).1
    have:=qbs bb4
    omega
  have hlen2:(H1++[AB.defs (some []),.loop L]).length=H1.length+2:=by simp
  have key:=all1_c (H:=H1++[AB.defs (some []),.loop L]) (l:=H1.length+1) (bc:=H3.length) (bo:=bo) (v:=v) (vs:=vs) F hd hA.len hk (by have:=hA.le;omega) (by omega) (by omega) (by omega) (Iwt H H1 n q H2.length (H2.length+1) H3.length bo A dec L) (qjm bc4 _) ?_ (by rw [hlen2];exact hst) hI (fun t O H' x h hx=>(h.own x hx).2) ?_
  · refine FN.mono key ?_
    rintro v' Hz ⟨O,h,_⟩
    refine⟨L,.normal,h.lp,by rw [hL];simp [qbv],by rw [hL];rfl,?_⟩
    refine EZ_of ?_
    obtain⟨HB,hHB⟩:∃ HB,HB=Hz.set (H1.length+1) (.loop { L with state:=.exhausted,pending:=L.pending }):=⟨_,rfl⟩
    rw [←hHB]
    have k1:∀ x,x≠H1.length+1→HB[x]? = Hz[x]?:=fun x hx=>by rw [hHB];exact List.getElem?_set_ne (Ne.symm hx)
    have hl4':=qbs o4
    have hl4b:=qbs b4
    have bB:HB[H2.length+1]? = some (.cells [.slice (some ⟨H2.length,0,none⟩) (n+1) (n+1)] 31 none false):=(k1 _ (by omega)).trans ((h.old _ hl4b (by omega)).trans b4)
    have oB:=(k1 H2.length (by omega)).trans h.out
    have dB:=(k1 H1.length (by omega)).trans h.ds
    simp (disch:=(first|omega|(simp only [List.length_map];omega)|(simp only [qbj]<;>omega)|(simp only [qbd];done)|rfl)) only [↓qbk,zC,zD,zF,zG,zH,Nat.reduceEqDiff,Nat.reduceLT,Nat.reduceLeDiff,↓reduceIte,e5,xf54,eds,bB]
    rw [unwA_col dB]
    simp (disch:=(first|omega|(simp only [List.length_map];omega)|(simp only [qbj]<;>omega)|(simp only [qbd];done)|rfl)) only [↓qbk,zC,zD,zF,zG,zH,Nat.reduceEqDiff,Nat.reduceLT,Nat.reduceLeDiff,↓reduceIte,e5,xf54,eds,bB]
    have oC:(HB.set H1.length (.defs none))[H2.length]? = some (.cells (tab (n+1) fun j=>nv (wct (qcm n q A dec) j)) 3 none false):=by
      rw [List.getElem?_set_ne (by omega),oB,List.take_of_length_le (by rw [qmk,hk];exact Nat.le_refl _)]
    refine⟨fun x hx=>?_,_,qcm n q A dec,rfl,Row.of oC (by rw [qg9]) (Nat.le_refl _),qh2 F0 hA hd⟩
    have h04:=hp04.len
    rw [List.getElem?_set_ne (by omega),k1 _ (by omega),h.old x (by omega) (by omega)]
    exact hp04 x hx
  · rw [hlen2]
    intro H' hp h1 h2 h3
    refine⟨(hp.get (qjm o4 _)),hp.get (by simp),hp.get (by simp),fun x hx _=>(hp x (by simp;omega)).trans (List.getElem?_append_left hx),by omega,h1,h2,fun x hx=>by subst hx;omega⟩
  · intro t O Hb bw op ht h hbw hw
    have hlt:=qbs h.lp
    obtain⟨HB,hHB⟩:∃ HB,HB=Hb.set (H1.length+1) (.loop { L with state:=.busy,pending:=L.pending }):=⟨_,rfl⟩
    have k1:∀ x,x≠H1.length+1→HB[x]? = Hb[x]?:=fun x hx=>by rw [hHB];exact List.getElem?_set_ne (Ne.symm hx)
    have kl:HB.length=Hb.length:=by rw [hHB];simp
    have kg:HB[H1.length+1]? = some (.loop { L with state:=.busy,pending:=L.pending }):=by rw [hHB];exact List.getElem?_set_self hlt
    have hl4':=qbs o4
    have hl4b:=qbs b4
    have hbw4:=h.own bw hbw
    have bB:HB[H2.length+1]? = some (.cells [.slice (some ⟨H2.length,0,none⟩) (n+1) (n+1)] 31 none false):=(k1 _ (by omega)).trans ((h.old _ hl4b (by omega)).trans b4)
    have oB:=(k1 H2.length (by omega)).trans h.out
    have hPl:=qj9 (q:=q) (dec:=dec) (r:=t) hA.len (show k≤A.length by omega)
    have wB:HB[bw]? = some (.cells (evs cd (qfb n q A dec k t)) 3 op false):=(k1 _ (by omega)).trans hw
    have hrow:Row HB (.slice (some ⟨bw,0,none⟩) n n) (evs cd (qfb n q A dec k t)):=Row.of wB (by simp [hPl]) (Nat.le_refl _)
    refine YN.introZ qbq (r:=L) h.lp (by rw [hL];exact hA') (by rw [hL];exact hB') (by rw [hL];rfl) (by rw [hL];simp [qbv]) ?_
    have l1:L.n=27:=by rw [hL];rfl
    have l2:L.env=s.env:=by rw [hL];rfl
    have l3:L.params.toList=[18]:=by rw [hL];rfl
    have l4:L.state=.ready:=by rw [hL];rfl
    rw [l1,l2,l3]
    simp (disch:=(first|omega|(simp only [List.length_map];omega)|(simp only [qbj]<;>omega)|(simp only [qbd];done)|rfl)) only [↓qbk,zC,zD,zF,zG,zH,Nat.reduceEqDiff,Nat.reduceLT,Nat.reduceLeDiff,↓reduceIte,qdt,qd1,E_ynA]
    refine⟨L,h.lp,l4,?_⟩
    rw [←hHB]
    obtain⟨w,hwt⟩:∃ w,w=lwt (qfb n q A dec k t):=⟨_,rfl⟩
    have hwn:w<n+1:=by have:=lwt_le (qfb n q A dec k t);omega
    have ht':t<q ^ A.length:=by rw [hk];exact ht
    have hgt:lwt ((qcm n q A dec).getD t [])=w:=by rw [cwords_get ht',hk,hwt]
    have hcl:t<(qcm n q A dec).length:=by rw [qmk];exact ht'
    have hct:=wct_le ((qcm n q A dec).take t) w
    have hct4:wct ((qcm n q A dec).take t) w≤4096:=Nat.le_trans hct (by rw [List.length_take,qmk,hk];omega)
    have ld:qc6 none (some (.cells (tab (n+1) fun j=>nv (wct ((qcm n q A dec).take t) j)) 3 none false)) w=some (nv (wct ((qcm n q A dec).take t) w)):=tab_ld2 hwn
    have st:=qp3 (k:=w) (v:=nv (wct ((qcm n q A dec).take t) w+1)) (g:=fun j=>nv (wct ((qcm n q A dec).take (t+1)) j)) oB hwn rfl rfl (by rw [wct_take hcl,if_pos hgt]) (fun j hj hne=>by rw [wct_take hcl,if_neg (fun h=>hne (by omega))];rfl)
    simp (disch:=(first|omega|(simp only [List.length_map];omega)|(simp only [qbj]<;>omega)|(simp only [qbd];done)|rfl)) only [↓qbk,zC,zD,zF,zG,zH,Nat.reduceEqDiff,Nat.reduceLT,Nat.reduceLeDiff,↓reduceIte,qdt,qd1,e5,bB]
    refine FZ.use (cweight_c F0 hrow (by omega)) ?_
    rw [←hwt]
    simp (disch:=(first|omega|(simp only [List.length_map];omega)|(simp only [qbj]<;>omega)|(simp only [qbd];done)|rfl)) only [↓qbk,zC,zD,zF,zG,zH,Nat.reduceEqDiff,Nat.reduceLT,Nat.reduceLeDiff,↓reduceIte,qdt,qd1,e5,bB,oB,ld,hwn,st,E_ynB]
    have g6:(HB.set H2.length (.cells (tab (n+1) fun j=>nv (wct ((qcm n q A dec).take (t+1)) j)) 3 none false))[H1.length+1]? = some (.loop { L with state:=.busy,pending:=L.pending }):=by
      rw [List.getElem?_set_ne (by omega)];exact kg
    have hh:=h.len
    refine⟨_,g6,rfl,?_,by simp;omega,fun x hx=>?_⟩
    · refine⟨?_,?_,?_,fun x hx hne=>?_,by simp;omega,?_,?_,fun x hx=>by have:=h.own x hx;simp;omega⟩
      · rw [List.getElem?_set_ne (by omega)];exact List.getElem?_set_self (qbs oB)
      · rw [List.getElem?_set_ne (by omega),List.getElem?_set_ne (by omega),k1 _ (by omega)];exact h.ds
      · rw [List.getElem?_set_self (by simp;omega),hL];rfl
      · rw [List.getElem?_set_ne (by omega),List.getElem?_set_ne (Ne.symm hne),k1 _ (by omega)];exact h.old x hx hne
      · rw [List.getElem?_set_ne (by omega),List.getElem?_set_ne (by omega),k1 _ (by omega)];exact h.yb
      · rw [List.getElem?_set_ne (by omega),List.getElem?_set_ne (by omega),k1 _ (by omega)];exact h.fb
    · have:=h.own x hx
      rw [List.getElem?_set_ne (by omega),List.getElem?_set_ne (by omega),k1 _ (by omega)]
end
end Go.Sim
