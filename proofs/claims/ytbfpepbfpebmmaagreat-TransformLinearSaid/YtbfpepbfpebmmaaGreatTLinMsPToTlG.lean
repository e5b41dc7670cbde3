/- Part of the proof: MsP, MsA, TlC, TlG. -/
import Derived.Test.YtbfpepbfpebmmaaGreatTLinMpG
import Derived.Test.YtbfpepbfpebmmaaGreatTLinMoYToMpD
import Derived.Test.YtbfpepbfpebmmaaGreatTLinMoAToZTlA
import Derived.Test.YtbfpepbfpebmmaaGreatTLinMpL
import Derived.Test.YtbfpepbfpebmmaaGreatTLinTlAToZZzXfT
import Derived.Test.YtbfpepbfpebmmaaGreatTLinShSToXfS
import Derived.Test.YtbfpepbfpebmmaaGreatTLinZShMixToZPfFieldI
import Derived.KernelRfl
import Derived.Test.YtbfpepbfpebmmaaGreatTLinSimSTToShC
set_option linter.all false
namespace Go.Sim
section
variable {α:Type} [Fl α] [DecidableEq α]
def vwt:Nat→Vc α→Nat
  | 0,_=>0
  | n+1,v=>vwt n v+if v n=Fl.zero then 0 else 1
theorem vwt_succ (n:Nat) (v:Vc α):vwt (n+1) v=vwt n v+if v n=Fl.zero then 0 else 1:=rfl
theorem vwt_le (v:Vc α):∀ n,vwt n v≤n
  | 0=>Nat.le_refl _
  | n+1=>by have:=vwt_le v n;unfold vwt;split<;>omega
theorem vwt_cong {u v:Vc α}:∀ n,(∀ j,j<n→u j=v j)→vwt n u=vwt n v
  | 0,_=>rfl
  | n+1,h=>by unfold vwt;rw [vwt_cong n fun j hj=>h j (by omega),h n (by omega)]
theorem vwt_zero {v:Vc α}:∀ {n:Nat},vwt n v=0↔∀ j,j<n→v j=Fl.zero
  | 0=>⟨fun _ j h=>absurd h (Nat.not_lt_zero _),fun _=>rfl⟩
  | n + 1=>by
    unfold vwt
    constructor
    · intro h j hj
      by_cases h0:v n=Fl.zero
      · rw [if_pos h0] at h
        by_cases hn:j=n
        · rw [hn];exact h0
        · exact vwt_zero.1 (by omega) j (by omega)
      · rw [if_neg h0] at h;omega
    · intro h
      rw [if_pos (h n (by omega)),vwt_zero.2 fun j hj=>h j (by omega)]
theorem qq4:∀ (n:Nat) (x:List α),x.length=n→lwt x=vwt n (toV x):=by
  have key:∀ (n:Nat) (x:List α),n≤x.length→lwt (x.take n)=vwt n (toV x):=by
    intro n x
    induction n with
    | zero=>intro _;simp [lwt,vwt]
    | succ n ih =>
      intro hn
      have ih:=ih (by omega)
      have hlt:n<x.length:=by omega
      have e1:lwt (x.take (n+1))=lwt (x.take n)+if x.getD n Fl.zero=Fl.zero then 0 else 1:=by
        unfold lwt
        rw [List.take_succ_eq_append_getElem hlt,List.filter_append,List.length_append]
        congr 1
        simp only [List.getD_eq_getElem?_getD,List.getElem?_eq_getElem hlt,Option.getD_some]
        by_cases h:x[n]=Fl.zero
        · rw [if_pos h,List.filter_cons_of_neg (by simp [h])];rfl
        · rw [if_neg h,List.filter_cons_of_pos (by simp [h])];rfl
      rw [e1,ih];rfl
  intro n x hx
  have:=key n x (by omega)
  rwa [List.take_of_length_le (by omega)] at this
def VLst (S:Vc α→Prop) (n d:Nat):Prop:=0<d∧(∃ v,S v∧vwt n v=d)∧∀ v,S v→vwt n v≠0→d≤vwt n v
def Lst (A:List (List α)) (n d:Nat):Prop:=(A=[]∧d=0)∨VLst (LSpan A) n d
end
end Go.Sim

namespace Go.Sim
open Go Go.Proofs
section
variable {α:Type} [Fl α] [DecidableEq α] {cd:α→Nat} {p e b c q:Nat} {blk:AB} {H:AH}
def wct (ws:List (List α)) (j:Nat):Nat:=(ws.filter fun x=>decide (lwt x=j)).length
theorem wct_le (ws:List (List α)) (j:Nat):wct ws j≤ws.length:=List.length_filter_le _ _
theorem wct_take {ws:List (List α)} {k:Nat} (hk:k<ws.length) (j:Nat):wct (ws.take (k+1)) j=wct (ws.take k) j+if lwt (ws.getD k [])=j then 1 else 0:=by
  unfold wct
  rw [List.take_succ_eq_append_getElem hk,List.filter_append,List.length_append,qcj hk]
  congr 1
  by_cases h:lwt ws[k]=j<;>simp [h]
end
end Go.Sim

namespace Go.Sim
open Go Go.Proofs
section
variable {α:Type} [Fl α] [DecidableEq α] {cd:α→Nat} {p e b c q:Nat} {blk:AB} {H:AH}
def qcf (n q:Nat) (A:List (List α)) (dec:Nat→α):List (List α):=(List.range (q ^ A.length)).map fun i=>qdf n q A dec A.length i
theorem qmp (F:FOK α cd p e b c q blk) {n:Nat} {A:List (List α)} (hA:LRed n A) {dec:Nat→α} (hd:∀ d,d<q→cd (dec d)=d):Wds A n q (qcf n q A dec):=wds_of F hA hd
theorem qh7 {n:Nat} {A:List (List α)} {dec:Nat→α}:(qcf n q A dec).length=q ^ A.length:=by simp [qcf]
theorem cwords_get {n t:Nat} {A:List (List α)} {dec:Nat→α} (ht:t<q ^ A.length):(qcf n q A dec).getD t []=qdf n q A dec A.length t:=by
  simp [qcf,List.getD_eq_getElem?_getD,List.getElem?_range ht]
structure Iwt (H H4:AH) (n q ob bx bc bo:Nat) (A:List (List α)) (dec:Nat→α) (L:ALoop) (t:Nat) (O:Nat→Prop) (H':AH):Prop where
  out:H'[ob]? = some (.cells (tab (n+1) fun j=>nv (wct ((qcf n q A dec).take t) j)) 3 none false)
  ds:H'[H4.length]? = some (.defs (some []))
  lp:H'[H4.length+1]? = some (.loop L)
  old:∀ x,x<H4.length→x≠ob→H'[x]? = H4[x]?
  len:H4.length+4≤H'.length
  yb:H'[H4.length+2]? = some (.cells [.func (.yield (H4.length+1)) #[] #[]] 141 none false)
  fb:H'[H4.length+3]? = some (.cells [qjt bc (H4.length+2) bo (H4.length+3)] 147 none false)
  own:∀ x,O x→H4.length+4≤x∧x<H'.length
theorem cweights_c (Q:FQ α cd p e q blk) (hq:q≤16) {v:Value} {n k:Nat} {A:List (List α)} (hv:RowR H v (evr cd A)) (hA:LRed n A) (hk:A.length=k) (hqk:q ^ k≤4096) (hn:n≤24) (hn0:1≤n) :
    FN Tryz.prog 54 [codv q n v] H (fun r H'=>Pre H H'∧∃ w ws,r=.tuple [w,nv 0].toArray∧Row H' w (tab (n+1) fun j=>nv (wct ws j))∧Wds A n q ws):=by
  have F0:=Q.ok 0
  obtain⟨dec,hd⟩:=dec_ex F0
  refine FN.of_compZ qbs xf54_ok (Nat.le_of_ble_eq_true rfl) ?_
  have ho:=hv.one'
  have hX:=Pre.new H [.cells [nv q,nv n,v] 29 none false]
  simp (disch:=(first|omega|(simp only [List.length_map];omega)|(simp only [qbf]<;>omega)|(simp only [qbd];done)|rfl)) only [↓qbk,zC,zD,zF,zG,zH,Nat.reduceEqDiff,Nat.reduceLT,Nat.reduceLeDiff,↓reduceIte,xf54,ho]
  refine FZ.mono (csmall_c Q hq (hv.pre hX) hA hn hn0 hk hqk) ?_
  rintro _ H2 ⟨rfl,hp2⟩
  have g2:H2[H.length]? = some (.cells [nv q,nv n,v] 29 none false):=hp2.get (by simp)
  have hmk:8*(n+1)≤281474976710656:=by omega
  obtain⟨H3,hH3⟩:∃ H3,H3=H2++[AB.cells ((List.replicate (n+1) 0).map nv) 3 none false,.cells [.slice (some ⟨H2.length,0,none⟩) (n+1) (n+1)] 31 none false]:=⟨_,rfl⟩
  have g3:(H2++[AB.cells ((List.replicate (n+1) 0).map nv) 3 none false,.cells [.slice (some ⟨H2.length,0,none⟩) (n+1) (n+1)] 31 none false])[H.length]? = some (.cells [nv q,nv n,v] 29 none false):=qc4 g2 _
  have hlt:=qbr g2
  simp (disch:=(first|omega|(simp only [List.length_map];omega)|(simp only [qbf]<;>omega)|(simp only [qbd];done)|rfl)) only [↓qbk,zC,zD,zF,zG,zH,Nat.reduceEqDiff,Nat.reduceLT,Nat.reduceLeDiff,↓reduceIte,g2,hmk,qdw,g3]
  rw [←hH3] at g3 ⊢
  have hp3:Pre H H3:=by rw [hH3];exact (hX.trans hp2).trans (Pre.new _ _)
  have o3:H3[H2.length]? = some (.cells (tab (n+1) fun j=>nv (wct ((qcf n q A dec).take 0) j)) 3 none false):=by rw [hH3,qps];simp [wct]
  have b3:H3[H2.length+1]? = some (.cells [.slice (some ⟨H2.length,0,none⟩) (n+1) (n+1)] 31 none false):=by rw [hH3];simp
  have hl3:H3.length=H2.length+2:=by rw [hH3];simp
  clear hH3
  refine FZ.mono (allf_c Q hq ho) ?_
  rintro _ H4 ⟨hp4,b,bo,rfl,hl4,bc4,bo4,bb4,hbl,hbol⟩
  have o4:=hp4.get o3
  have b4:=hp4.get b3
  have hp04:=hp3.trans hp4
  obtain⟨vs,hvs,hvr⟩:=hv
  have hvl:vs.length=A.length:=by rw [hvr.1];simp [evr]
  have F:=Q.ok b
  refine X_gen (fun s H'=>s.env 5=.pointer (some ⟨H2.length+1,0,none⟩)∧s.env 17=.func (.func 152) #[] #[.pointer (some ⟨H3.length,0,none⟩),.pointer (some ⟨bo,0,none⟩)]∧s.ds=[]∧H'=H4) ?_ ?_
  · simp (disch:=(first|omega|(simp only [List.length_map];omega)|(simp only [qbf]<;>omega)|(simp only [qbd];done)|rfl)) only [↓qbk,zC,zD,zF,zG,zH,Nat.reduceEqDiff,Nat.reduceLT,Nat.reduceLeDiff,↓reduceIte]
  rintro s H1 ⟨e5,e17,eds,rfl⟩
  refine qkf (f:=.tmp 17) (g:=152) rfl e17 ?_
  intro assign body hA' hB'
  obtain⟨L,hL⟩:∃ L,L=qbx 27 s #[18] assign body H1.length:=⟨_,rfl⟩
  rw [←hL]
  have hI:∀ t (O O':Nat→Prop) (Ha Hb:AH),Iwt H H1 n q H2.length (H2.length+1) H3.length bo A dec L t O Ha→Ha.length≤Hb.length→(∀ x,x<Ha.length→¬O x→Hb[x]? = Ha[x]?)→(∀ x,O' x→(O x∨Ha.length≤x)∧x<Hb.length)→Iwt H H1 n q H2.length (H2.length+1) H3.length bo A dec L t O' Hb:=fun t O O' Ha Hb h hl hk ho'=>by
    have hno:∀ x,x<H1.length+4→¬O x:=fun x hx h1=>by have:=(h.own x h1).1;omega
    have hll:=h.len
    refine⟨?_,?_,?_,fun x hx hne=>?_,by omega,?_,?_,fun x hx=>?_⟩
    · rw [hk _ (qbr h.out) (hno _ (by have:=qbr o4;omega))];exact h.out
    · rw [hk _ (by omega) (hno _ (by omega))];exact h.ds
    · rw [hk _ (by omega) (hno _ (by omega))];exact h.lp
    · rw [hk _ (by omega) (hno _ (by omega))];exact h.old x hx hne
    · rw [hk _ (by omega) (hno _ (by omega))];exact h.yb
    · rw [hk _ (by omega) (hno _ (by omega))];exact h.fb
    · obtain⟨h1,h2⟩:=ho' x hx
      rcases h1 with h1|h1
      · have:=h.own x h1;omega
      · omega
  have hst:∀ t (O:Nat→Prop) (H':AH),Iwt H H1 n q H2.length (H2.length+1) H3.length bo A dec L t O H'→H'[H3.length]? = some (.cells [nv q,nv n,v] 29 none false)∧RowX H' v vs∧Rws H' vs (evr cd A)∧H'[H1.length+2]? = some (.cells [.func (.yield (H1.length+1)) #[] #[]] 141 none false) ∧
      H'[bo]? = some (.cells [nv p,nv e,.slice (some ⟨b,0,none⟩) e e] 96 none false)∧H'[H1.length+3]? = some (.cells [qjt H3.length (H1.length+2) bo (H1.length+3)] 147 none false)∧H'[b]? = some blk∧¬O b:=fun t O H' h=>by
    have hp:Pre H H':=fun x hx=>by rw [h.old x (by have:=hp04.len;omega) (by omega)];exact hp04 x hx
    refine⟨(h.old _ (by omega) (by omega)).trans bc4,hvs.pre hp,hvr.pre hp,h.yb,(h.old _ (qbr bo4) (by omega)).trans bo4,h.fb,(h.old _ (qbr bb4) (by omega)).trans bb4,fun h1=>?_⟩
    have:=(h.own b h1).1
    have:=qbr bb4
    omega
  have hlen2:(H1++[AB.defs (some []),.loop L]).length=H1.length+2:=by simp
  have key:=all1_c (H:=H1++[AB.defs (some []),.loop L]) (l:=H1.length+1) (bc:=H3.length) (bo:=bo) (v:=v) (vs:=vs) F hd hA.len hk (by have:=hA.le;omega) (by omega) (by omega) (by omega) (Iwt H H1 n q H2.length (H2.length+1) H3.length bo A dec L) (qc4 bc4 _) ?_ (by rw [hlen2];exact hst) hI (fun t O H' x h hx=>(h.own x hx).2) ?_
  · refine FN.mono key ?_
    rintro v' Hz ⟨O,h,_⟩
    refine⟨L,.normal,h.lp,by rw [hL];simp [qbx],by rw [hL];rfl,?_⟩
    refine EZ_of ?_
    obtain⟨HB,hHB⟩:∃ HB,HB=Hz.set (H1.length+1) (.loop { L with state:=.exhausted,pending:=L.pending }):=⟨_,rfl⟩
    rw [←hHB]
    have k1:∀ x,x≠H1.length+1→HB[x]? = Hz[x]?:=fun x hx=>by rw [hHB];exact List.getElem?_set_ne (Ne.symm hx)
    have hl4':=qbr o4
    have hl4b:=qbr b4
    have bB:HB[H2.length+1]? = some (.cells [.slice (some ⟨H2.length,0,none⟩) (n+1) (n+1)] 31 none false):=(k1 _ (by omega)).trans ((h.old _ hl4b (by omega)).trans b4)
    have oB:=(k1 H2.length (by omega)).trans h.out
    have dB:=(k1 H1.length (by omega)).trans h.ds
    simp (disch:=(first|omega|(simp only [List.length_map];omega)|(simp only [qbf]<;>omega)|(simp only [qbd];done)|rfl)) only [↓qbk,zC,zD,zF,zG,zH,Nat.reduceEqDiff,Nat.reduceLT,Nat.reduceLeDiff,↓reduceIte,e5,xf54,eds,bB]
    rw [qpc dB]
    simp (disch:=(first|omega|(simp only [List.length_map];omega)|(simp only [qbf]<;>omega)|(simp only [qbd];done)|rfl)) only [↓qbk,zC,zD,zF,zG,zH,Nat.reduceEqDiff,Nat.reduceLT,Nat.reduceLeDiff,↓reduceIte,e5,xf54,eds,bB]
    have oC:(HB.set H1.length (.defs none))[H2.length]? = some (.cells (tab (n+1) fun j=>nv (wct (qcf n q A dec) j)) 3 none false):=by
      rw [List.getElem?_set_ne (by omega),oB,List.take_of_length_le (by rw [qh7,hk];exact Nat.le_refl _)]
    refine⟨fun x hx=>?_,_,qcf n q A dec,rfl,Row.of oC (by rw [qk3]) (Nat.le_refl _),qmp F0 hA hd⟩
    have h04:=hp04.len
    rw [List.getElem?_set_ne (by omega),k1 _ (by omega),h.old x (by omega) (by omega)]
    exact hp04 x hx
  · rw [hlen2]
    intro H' hp h1 h2 h3
    refine⟨(hp.get (qc4 o4 _)),hp.get (by simp),hp.get (by simp),fun x hx _=>(hp x (by simp;omega)).trans (List.getElem?_append_left hx),by omega,h1,h2,fun x hx=>by subst hx;omega⟩
  · intro t O Hb bw op ht h hbw hw
    have hlt:=qbr h.lp
    obtain⟨HB,hHB⟩:∃ HB,HB=Hb.set (H1.length+1) (.loop { L with state:=.busy,pending:=L.pending }):=⟨_,rfl⟩
    have k1:∀ x,x≠H1.length+1→HB[x]? = Hb[x]?:=fun x hx=>by rw [hHB];exact List.getElem?_set_ne (Ne.symm hx)
    have kl:HB.length=Hb.length:=by rw [hHB];simp
    have kg:HB[H1.length+1]? = some (.loop { L with state:=.busy,pending:=L.pending }):=by rw [hHB];exact List.getElem?_set_self hlt
    have hl4':=qbr o4
    have hl4b:=qbr b4
    have hbw4:=h.own bw hbw
    have bB:HB[H2.length+1]? = some (.cells [.slice (some ⟨H2.length,0,none⟩) (n+1) (n+1)] 31 none false):=(k1 _ (by omega)).trans ((h.old _ hl4b (by omega)).trans b4)
    have oB:=(k1 H2.length (by omega)).trans h.out
    have hPl:=qgf (q:=q) (dec:=dec) (r:=t) hA.len (show k≤A.length by omega)
    have wB:HB[bw]? = some (.cells (evs cd (qdf n q A dec k t)) 3 op false):=(k1 _ (by omega)).trans hw
    have hrow:Row HB (.slice (some ⟨bw,0,none⟩) n n) (evs cd (qdf n q A dec k t)):=Row.of wB (by simp [hPl]) (Nat.le_refl _)
    refine YN.introZ qbs (r:=L) h.lp (by rw [hL];exact hA') (by rw [hL];exact hB') (by rw [hL];rfl) (by rw [hL];simp [qbx]) ?_
    have l1:L.n=27:=by rw [hL];rfl
    have l2:L.env=s.env:=by rw [hL];rfl
    have l3:L.params.toList=[18]:=by rw [hL];rfl
    have l4:L.state=.ready:=by rw [hL];rfl
    rw [l1,l2,l3]
    simp (disch:=(first|omega|(simp only [List.length_map];omega)|(simp only [qbf]<;>omega)|(simp only [qbd];done)|rfl)) only [↓qbk,zC,zD,zF,zG,zH,Nat.reduceEqDiff,Nat.reduceLT,Nat.reduceLeDiff,↓reduceIte,qcm,qcr,E_ynA]
    refine⟨L,h.lp,l4,?_⟩
    rw [←hHB]
    obtain⟨w,hwt⟩:∃ w,w=lwt (qdf n q A dec k t):=⟨_,rfl⟩
    have hwn:w<n+1:=by have:=lwt_le (qdf n q A dec k t);omega
    have ht':t<q ^ A.length:=by rw [hk];exact ht
    have hgt:lwt ((qcf n q A dec).getD t [])=w:=by rw [cwords_get ht',hk,hwt]
    have hcl:t<(qcf n q A dec).length:=by rw [qh7];exact ht'
    have hct:=wct_le ((qcf n q A dec).take t) w
    have hct4:wct ((qcf n q A dec).take t) w≤4096:=Nat.le_trans hct (by rw [List.length_take,qh7,hk];omega)
    have ld:qdm none (some (.cells (tab (n+1) fun j=>nv (wct ((qcf n q A dec).take t) j)) 3 none false)) w=some (nv (wct ((qcf n q A dec).take t) w)):=tab_ld2 hwn
    have st:=tab_st (k:=w) (v:=nv (wct ((qcf n q A dec).take t) w+1)) (g:=fun j=>nv (wct ((qcf n q A dec).take (t+1)) j)) oB hwn rfl rfl (by rw [wct_take hcl,if_pos hgt]) (fun j hj hne=>by rw [wct_take hcl,if_neg (fun h=>hne (by omega))];rfl)
    simp (disch:=(first|omega|(simp only [List.length_map];omega)|(simp only [qbf]<;>omega)|(simp only [qbd];done)|rfl)) only [↓qbk,zC,zD,zF,zG,zH,Nat.reduceEqDiff,Nat.reduceLT,Nat.reduceLeDiff,↓reduceIte,qcm,qcr,e5,bB]
    refine FZ.use (cweight_c F0 hrow (by omega)) ?_
    rw [←hwt]
    simp (disch:=(first|omega|(simp only [List.length_map];omega)|(simp only [qbf]<;>omega)|(simp only [qbd];done)|rfl)) only [↓qbk,zC,zD,zF,zG,zH,Nat.reduceEqDiff,Nat.reduceLT,Nat.reduceLeDiff,↓reduceIte,qcm,qcr,e5,bB,oB,ld,hwn,st,E_ynB]
    have g6:(HB.set H2.length (.cells (tab (n+1) fun j=>nv (wct ((qcf n q A dec).take (t+1)) j)) 3 none false))[H1.length+1]? = some (.loop { L with state:=.busy,pending:=L.pending }):=by
      rw [List.getElem?_set_ne (by omega)];exact kg
    have hh:=h.len
    refine⟨_,g6,rfl,?_,by simp;omega,fun x hx=>?_⟩
    · refine⟨?_,?_,?_,fun x hx hne=>?_,by simp;omega,?_,?_,fun x hx=>by have:=h.own x hx;simp;omega⟩
      · rw [List.getElem?_set_ne (by omega)];exact List.getElem?_set_self (qbr oB)
      · rw [List.getElem?_set_ne (by omega),List.getElem?_set_ne (by omega),k1 _ (by omega)];exact h.ds
      · rw [List.getElem?_set_self (by simp;omega),hL];rfl
      · rw [List.getElem?_set_ne (by omega),List.getElem?_set_ne (Ne.symm hne),k1 _ (by omega)];exact h.old x hx hne
      · rw [List.getElem?_set_ne (by omega),List.getElem?_set_ne (by omega),k1 _ (by omega)];exact h.yb
      · rw [List.getElem?_set_ne (by omega),List.getElem?_set_ne (by omega),k1 _ (by omega)];exact h.fb
    · have:=h.own x hx
      rw [List.getElem?_set_ne (by omega),List.getElem?_set_ne (by omega),k1 _ (by omega)]
end
end Go.Sim

namespace Go.Sim
open Go Go.Proofs
theorem S0_bslC {P:Program} {xs:List Operand} {d:Option Tmp} {j:Nat} {kp:Bool} {l:List XS} {D:List PL} {s:St} {H:AH} {K:St→AH→Prop} {init:List Value} {len c:Nat} {cs:List Nat} {pl:List (Nat×Nat)} {e:TypeId}:@SZ P (⟨none,.bsl init len pl e,xs,d,j,kp,c :: cs⟩ :: l) ⟨D⟩ ⟨s⟩ ⟨H⟩ ⟨K⟩=@qb5 (qbv init pl (xs.map (ev s))) ⟨fun c'=>@letV (.slice (some ⟨H.length,0,none⟩) len len) ⟨fun v=>@letH (H++[.cells c' e none false]) ⟨fun H'=>chkX (c :: cs) D H'∧@SZ P l ⟨D⟩ ⟨s.put d v⟩ ⟨H'⟩ ⟨K⟩⟩⟩⟩:=by
  unfold SZ;rw [steps_bsl];rfl
theorem app_s {H:AH} {v u:Value} {vs:List Value} (h:(v=.slice none 0 0∧vs=[])∨∃ b,v=.slice (some ⟨b,0,none⟩) vs.length vs.length∧H[b]? = some (.cells vs 31 (some 1) false)) (hu:one u=true) (hb:(vs.length+1)*24≤140737488355328) (hl:vs.length+1≤9223372036854775807) :
    ∃ H',xact (.app 31 1 24) (H++[.cells [u] 31 none false]) [v,.slice (some ⟨H.length,0,none⟩) 1 1]=some (.slice (some ⟨H.length+1,0,none⟩) (vs.length+1) (vs.length+1),H')∧H'[H.length+1]? = some (.cells (vs++[u]) 31 (some 1) false) ∧
      (∀ x,x<H.length→(∀ l c,v≠.slice (some ⟨x,0,none⟩) l c)→H'[x]? = H[x]?)∧H'.length=H.length+2:=by
  have he:erow (H++[.cells [u] 31 none false]) (.slice (some ⟨H.length,0,none⟩) 1 1) (slen (.slice (some ⟨H.length,0,none⟩) 1 1)*1)=some [u]:=by
    simp [erow,slen]
  have hs:slen (.slice (some ⟨H.length,0,none⟩) 1 1)=1:=rfl
  unfold xact
  simp only [he]
  rcases h with ⟨rfl,rfl⟩|⟨b,rfl,h2⟩
  · rw [if_pos ⟨by rw [hs];simpa [slen] using hb,by rw [hs];simp [slen],by simpa using hu⟩]
    simp only [hs]
    rw [if_neg (by omega)]
    refine⟨(H++[.cells [u] 31 none false])++[.cells [u] 31 (some 1) false],by simp,by simp,fun x hx _=>by rw [List.append_assoc,List.getElem?_append_left (by omega)],by simp⟩
  · have hlt:=qbr h2
    have h2':(H++[AB.cells [u] 31 none false])[b]? = some (.cells vs 31 (some 1) false):=by rw [List.getElem?_append_left hlt];exact h2
    rw [if_pos ⟨by rw [hs];simpa [slen] using hb,by rw [hs];simpa [slen] using hl,by simpa using hu⟩]
    simp only [h2',hs]
    rw [if_neg (by omega),if_neg (by simp),if_pos (by simp)]
    refine⟨(H++[AB.cells [u] 31 none false]).set b .dead++[.cells (vs++[u]) 31 (some 1) false],by simp,by simp,fun x hx hne=>?_,by simp⟩
    have:x≠b:=fun e=>hne _ _ (by rw [e])
    rw [List.getElem?_append_left (by simp;omega),List.getElem?_set_ne (Ne.symm this),List.getElem?_append_left (by omega)]
section
variable {α:Type} [Fl α] [DecidableEq α] {cd:α→Nat} {p e b c q:Nat} {blk:AB} {H:AH}
structure Iwo (H4:AH) (cd:α→Nat) (n q bx bc bo:Nat) (A:List (List α)) (dec:Nat→α) (L:ALoop) (t:Nat) (O:Nat→Prop) (H':AH):Prop where
  out:∃ out vs,H'[bx]? = some (.cells [out] 27 none false)∧vs.length=t∧((out=.slice none 0 0∧vs=[])∨∃ b,out=.slice (some ⟨b,0,none⟩) vs.length vs.length∧H'[b]? = some (.cells vs 31 (some 1) false)∧¬O b∧H4.length+4≤b) ∧
    ∀ i,i<t→∃ bl op,vs.getD i undef=.slice (some ⟨bl,0,none⟩) n n∧H'[bl]? = some (.cells (evs cd (qdf n q A dec A.length i)) 3 op false)∧¬O bl∧H4.length+4≤bl
  ds:H'[H4.length]? = some (.defs (some []))
  lp:H'[H4.length+1]? = some (.loop L)
  old:∀ x,x<H4.length→x≠bx→H'[x]? = H4[x]?
  len:H4.length+4≤H'.length
  yb:H'[H4.length+2]? = some (.cells [.func (.yield (H4.length+1)) #[] #[]] 141 none false)
  fb:H'[H4.length+3]? = some (.cells [qjt bc (H4.length+2) bo (H4.length+3)] 147 none false)
  own:∀ x,O x→H4.length+4≤x∧x<H'.length
theorem cwordsL_c (Q:FQ α cd p e q blk) (hq:q≤16) {dec:Nat→α} (hd:∀ d,d<q→cd (dec d)=d) {v:Value} {n k:Nat} {A:List (List α)} (hv:RowR H v (evr cd A)) (hA:LRed n A) (hk:A.length=k) (hqk:q ^ k≤4096) (hn:n≤24) (hn0:1≤n) :
    FN Tryz.prog 52 [codv q n v] H (fun r H'=>Pre H H'∧∃ w,r=.tuple [w,nv 0].toArray∧RowR H' w (evr cd (qcf n q A dec))):=by
  have F0:=Q.ok 0
  refine FN.of_compZ qbs xf52_ok (Nat.le_of_ble_eq_true rfl) ?_
  have ho:=hv.one'
  have hX:=Pre.new H [.cells [nv q,nv n,v] 29 none false]
  simp (disch:=(first|omega|(simp only [List.length_map];omega)|(simp only [qbf]<;>omega)|(simp only [qbd];done)|rfl)) only [↓qbk,zC,zD,zF,zG,zH,Nat.reduceEqDiff,Nat.reduceLT,Nat.reduceLeDiff,↓reduceIte,xf52,ho]
  refine FZ.mono (csmall_c Q hq (hv.pre hX) hA hn hn0 hk hqk) ?_
  rintro _ H2 ⟨rfl,hp2⟩
  have g2:H2[H.length]? = some (.cells [nv q,nv n,v] 29 none false):=hp2.get (by simp)
  obtain⟨H3,hH3⟩:∃ H3,H3=H2++[AB.cells [.slice none 0 0] 27 none false]:=⟨_,rfl⟩
  have g3:(H2++[AB.cells [.slice none 0 0] 27 none false])[H.length]? = some (.cells [nv q,nv n,v] 29 none false):=qc4 g2 _
  have hlt:=qbr g2
  simp (disch:=(first|omega|(simp only [List.length_map];omega)|(simp only [qbf]<;>omega)|(simp only [qbd];done)|rfl)) only [↓qbk,zC,zD,zF,zG,zH,Nat.reduceEqDiff,Nat.reduceLT,Nat.reduceLeDiff,↓reduceIte,g2,g3]
  rw [←hH3] at g3 ⊢
  have hp3:Pre H H3:=by rw [hH3];exact (hX.trans hp2).trans (Pre.new _ _)
  have b3:H3[H2.length]? = some (.cells [.slice none 0 0] 27 none false):=by rw [hH3];simp
  have hl3:H3.length=H2.length+1:=by rw [hH3];simp
  clear hH3
  refine FZ.mono (allf_c Q hq ho) ?_
  rintro _ H4 ⟨hp4,b,bo,rfl,hl4,bc4,bo4,bb4,hbl,hbol⟩
  have b4:=hp4.get b3
  have hp04:=hp3.trans hp4
  obtain⟨vs,hvs,hvr⟩:=hv
  have hvl:vs.length=A.length:=by rw [hvr.1];simp [evr]
  have F:=Q.ok b
  refine X_gen (fun s H'=>s.env 5=.pointer (some ⟨H2.length,0,none⟩)∧s.env 13=.func (.func 152) #[] #[.pointer (some ⟨H3.length,0,none⟩),.pointer (some ⟨bo,0,none⟩)]∧s.ds=[]∧H'=H4) ?_ ?_
  · simp (disch:=(first|omega|(simp only [List.length_map];omega)|(simp only [qbf]<;>omega)|(simp only [qbd];done)|rfl)) only [↓qbk,zC,zD,zF,zG,zH,Nat.reduceEqDiff,Nat.reduceLT,Nat.reduceLeDiff,↓reduceIte]
  rintro s H1 ⟨e5,e17,eds,rfl⟩
  refine qkf (f:=.tmp 13) (g:=152) rfl e17 ?_
  intro assign body hA' hB'
  obtain⟨L,hL⟩:∃ L,L=qbx 21 s #[14] assign body H1.length:=⟨_,rfl⟩
  rw [←hL]
  have hI:∀ t (O O':Nat→Prop) (Ha Hb:AH),Iwo H1 cd n q H2.length H3.length bo A dec L t O Ha→Ha.length≤Hb.length→(∀ x,x<Ha.length→¬O x→Hb[x]? = Ha[x]?)→(∀ x,O' x→(O x∨Ha.length≤x)∧x<Hb.length)→Iwo H1 cd n q H2.length H3.length bo A dec L t O' Hb:=fun t O O' Ha Hb h hl hk ho'=>by
    have hno:∀ x,x<H1.length+4→¬O x:=fun x hx h1=>by have:=(h.own x h1).1;omega
    have hno':∀ x,x<Ha.length→¬O x→¬O' x:=fun x hx h1 h2=>(ho' x h2).1.elim h1 (by omega)
    have hll:=h.len
    refine⟨?_,?_,?_,fun x hx hne=>?_,by omega,?_,?_,fun x hx=>?_⟩
    · obtain⟨out,us,h1,h2,h3,h4⟩:=h.out
      refine⟨out,us,?_,h2,?_,fun i hi=>?_⟩
      · rw [hk _ (qbr h1) (hno _ (by have:=qbr b4;omega))];exact h1
      · rcases h3 with h3|⟨bb,h5,h6,h7,h8⟩
        · exact .inl h3
        · exact .inr ⟨bb,h5,by rw [hk _ (qbr h6) h7];exact h6,hno' _ (qbr h6) h7,h8⟩
      · obtain⟨bl,op,h5,h6,h7,h8⟩:=h4 i hi
        exact⟨bl,op,h5,by rw [hk _ (qbr h6) h7];exact h6,hno' _ (qbr h6) h7,h8⟩
    · rw [hk _ (by omega) (hno _ (by omega))];exact h.ds
    · rw [hk _ (by omega) (hno _ (by omega))];exact h.lp
    · rw [hk _ (by omega) (hno _ (by omega))];exact h.old x hx hne
    · rw [hk _ (by omega) (hno _ (by omega))];exact h.yb
    · rw [hk _ (by omega) (hno _ (by omega))];exact h.fb
    · obtain⟨h1,h2⟩:=ho' x hx
      rcases h1 with h1|h1
      · have:=h.own x h1;omega
      · omega
  have hst:∀ t (O:Nat→Prop) (H':AH),Iwo H1 cd n q H2.length H3.length bo A dec L t O H'→H'[H3.length]? = some (.cells [nv q,nv n,v] 29 none false)∧RowX H' v vs∧Rws H' vs (evr cd A)∧H'[H1.length+2]? = some (.cells [.func (.yield (H1.length+1)) #[] #[]] 141 none false) ∧
      H'[bo]? = some (.cells [nv p,nv e,.slice (some ⟨b,0,none⟩) e e] 96 none false)∧H'[H1.length+3]? = some (.cells [qjt H3.length (H1.length+2) bo (H1.length+3)] 147 none false)∧H'[b]? = some blk∧¬O b:=fun t O H' h=>by
    have hp:Pre H H':=fun x hx=>by rw [h.old x (by have:=hp04.len;omega) (by omega)];exact hp04 x hx
    refine⟨(h.old _ (by omega) (by omega)).trans bc4,hvs.pre hp,hvr.pre hp,h.yb,(h.old _ (qbr bo4) (by omega)).trans bo4,h.fb,(h.old _ (qbr bb4) (by omega)).trans bb4,fun h1=>?_⟩
    have:=(h.own b h1).1
    have:=qbr bb4
    omega
  have hlen2:(H1++[AB.defs (some []),.loop L]).length=H1.length+2:=by simp
  have key:=all1_c (H:=H1++[AB.defs (some []),.loop L]) (l:=H1.length+1) (bc:=H3.length) (bo:=bo) (v:=v) (vs:=vs) F hd hA.len hk (by have:=hA.le;omega) (by omega) (by omega) (by omega) (Iwo H1 cd n q H2.length H3.length bo A dec L) (qc4 bc4 _) ?_ (by rw [hlen2];exact hst) hI (fun t O H' x h hx=>(h.own x hx).2) ?_
  · refine FN.mono key ?_
    rintro v' Hz ⟨O,h,_⟩
    refine⟨L,.normal,h.lp,by rw [hL];simp [qbx],by rw [hL];rfl,?_⟩
    refine EZ_of ?_
    obtain⟨HB,hHB⟩:∃ HB,HB=Hz.set (H1.length+1) (.loop { L with state:=.exhausted,pending:=L.pending }):=⟨_,rfl⟩
    rw [←hHB]
    have k1:∀ x,x≠H1.length+1→HB[x]? = Hz[x]?:=fun x hx=>by rw [hHB];exact List.getElem?_set_ne (Ne.symm hx)
    have hl4b:=qbr b4
    obtain⟨out,us,h1,h2,h3,h4⟩:=h.out
    have bB:HB[H2.length]? = some (.cells [out] 27 none false):=(k1 _ (by omega)).trans h1
    have dB:=(k1 H1.length (by omega)).trans h.ds
    simp (disch:=(first|omega|(simp only [List.length_map];omega)|(simp only [qbf]<;>omega)|(simp only [qbd];done)|rfl)) only [↓qbk,zC,zD,zF,zG,zH,Nat.reduceEqDiff,Nat.reduceLT,Nat.reduceLeDiff,↓reduceIte,e5,xf52,eds,bB]
    rw [qpc dB]
    simp (disch:=(first|omega|(simp only [List.length_map];omega)|(simp only [qbf]<;>omega)|(simp only [qbd];done)|rfl)) only [↓qbk,zC,zD,zF,zG,zH,Nat.reduceEqDiff,Nat.reduceLT,Nat.reduceLeDiff,↓reduceIte,e5,xf52,eds,bB]
    have k2:∀ x,x≠H1.length→(HB.set H1.length (.defs none))[x]? = HB[x]?:=fun x hx=>List.getElem?_set_ne (Ne.symm hx)
    refine⟨fun x hx=>?_,out,rfl,us,?_,?_,fun i hi=>?_⟩
    · have h04:=hp04.len
      rw [k2 _ (by omega),k1 _ (by omega),h.old x (by omega) (by omega)]
      exact hp04 x hx
    · rcases h3 with ⟨rfl,rfl⟩|⟨bb,rfl,h6,h7,h8⟩
      · exact Acc.nil.x (H0:=H) (e:=31)
      · have:(HB.set H1.length (.defs none))[bb]? = some (.cells us 31 (some 1) false):=by rw [k2 _ (by omega),k1 _ (by omega)];exact h6
        exact (show Acc [] _ _ _ 31 from .inr ⟨bb,Nat.zero_le _,rfl,some 1,.inr rfl,this⟩).x
    · rw [h2];simp [qcf,evr,hk]
    · have hi':i<q ^ k:=by simpa [qcf,evr,hk] using hi
      obtain⟨bl,op,h5,h6,h7,h8⟩:=h4 i hi'
      have e1:(evr cd (qcf n q A dec)).getD i []=evs cd (qdf n q A dec A.length i):=by
        rw [getD_row (by rw [qh7,hk];exact hi'),cwords_get (by rw [hk];exact hi')]
      rw [e1,h5]
      have:(HB.set H1.length (.defs none))[bl]? = some (.cells (evs cd (qdf n q A dec A.length i)) 3 op false):=by rw [k2 _ (by omega),k1 _ (by omega)];exact h6
      exact Row.of this (by simp [qgf hA.len (Nat.le_refl _)]) (Nat.le_refl _)
  · rw [hlen2]
    intro H' hp h1 h2 h3
    refine⟨⟨.slice none 0 0,[],hp.get (qc4 b4 _),rfl,.inl ⟨rfl,rfl⟩,fun i hi=>absurd hi (Nat.not_lt_zero _)⟩,hp.get (by simp),hp.get (by simp),fun x hx _=>(hp x (by simp;omega)).trans (List.getElem?_append_left hx),by omega,h1,h2,fun x hx=>by subst hx;omega⟩
  · intro t O Hb bw op ht h hbw hw
    have hlt:=qbr h.lp
    obtain⟨HB,hHB⟩:∃ HB,HB=Hb.set (H1.length+1) (.loop { L with state:=.busy,pending:=L.pending }):=⟨_,rfl⟩
    have k1:∀ x,x≠H1.length+1→HB[x]? = Hb[x]?:=fun x hx=>by rw [hHB];exact List.getElem?_set_ne (Ne.symm hx)
    have kl:HB.length=Hb.length:=by rw [hHB];simp
    have kg:HB[H1.length+1]? = some (.loop { L with state:=.busy,pending:=L.pending }):=by rw [hHB];exact List.getElem?_set_self hlt
    have hl4b:=qbr b4
    have hbw4:=h.own bw hbw
    obtain⟨out,us,h1,h2,h3,h4⟩:=h.out
    have bB:HB[H2.length]? = some (.cells [out] 27 none false):=(k1 _ (by omega)).trans h1
    have hPl:=qgf (q:=q) (dec:=dec) (r:=t) hA.len (show k≤A.length by omega)
    have wB:HB[bw]? = some (.cells (evs cd (qdf n q A dec k t)) 3 op false):=(k1 _ (by omega)).trans hw
    have hrow:Row HB (.slice (some ⟨bw,0,none⟩) n n) (evs cd (qdf n q A dec k t)):=Row.of wB (by simp [hPl]) (Nat.le_refl _)
    refine YN.introZ qbs (r:=L) h.lp (by rw [hL];exact hA') (by rw [hL];exact hB') (by rw [hL];rfl) (by rw [hL];simp [qbx]) ?_
    have l1:L.n=21:=by rw [hL];rfl
    have l2:L.env=s.env:=by rw [hL];rfl
    have l3:L.params.toList=[14]:=by rw [hL];rfl
    have l4:L.state=.ready:=by rw [hL];rfl
    rw [l1,l2,l3]
    simp (disch:=(first|omega|(simp only [List.length_map];omega)|(simp only [qbf]<;>omega)|(simp only [qbd];done)|rfl)) only [↓qbk,zC,zD,zF,zG,zH,Nat.reduceEqDiff,Nat.reduceLT,Nat.reduceLeDiff,↓reduceIte,qcm,qcr,E_ynA]
    refine⟨L,h.lp,l4,?_⟩
    rw [←hHB]
    have hw0:evs cd (qdf n q A dec k t)≠[]:=fun h=>by
      have:=congrArg List.length h
      simp [hPl] at this
      omega
    simp (disch:=(first|omega|(simp only [List.length_map];omega)|(simp only [qbf]<;>omega)|(simp only [qbd];done)|rfl)) only [↓qbk,zC,zD,zF,zG,zH,Nat.reduceEqDiff,Nat.reduceLT,Nat.reduceLeDiff,↓reduceIte,qcm,qcr,e5,bB]
    refine FZ.mono (clone_c hrow hw0 (by simp [evs,one]) (by simp [hPl];omega)) ?_
    rintro _ H5 ⟨hp5,b1,hb1,rfl,op1,_,g1⟩
    have hlen1:(evs cd (qdf n q A dec k t)).length=n:=by simp [hPl]
    rw [hlen1]
    have bB5:=hp5.get bB
    have hul:us.length≤4096:=by omega
    have h3':(out=.slice none 0 0∧us=[])∨∃ b,out=.slice (some ⟨b,0,none⟩) us.length us.length∧H5[b]? = some (.cells us 31 (some 1) false):=by
      rcases h3 with h3|⟨bb,h5,h6,h7,h8⟩
      · exact .inl h3
      · exact .inr ⟨bb,h5,hp5.get (by rw [k1 _ (by omega)];exact h6)⟩
    obtain⟨H6,ea,g6,k6,l6⟩:=app_s (u:=.slice (some ⟨b1,0,none⟩) n n) h3' rfl (by omega) (by omega)
    have f1:qbv [.slice none 0 0] [(0,1)] [.slice (some ⟨b1,0,none⟩) n n]=some [.slice (some ⟨b1,0,none⟩) n n]:=rfl
    have l5:=hp5.len
    have b6:H6[H2.length]? = some (.cells [out] 27 none false):=by
      rw [k6 _ (by omega)]
      · exact bB5
      · rintro l c rfl
        rcases h3 with h3|⟨bb,h5,h6,h7,h8⟩
        · cases h3.1
        · cases h5;omega
    have bB6:(H5++[.cells [.slice (some ⟨b1,0,none⟩) n n] 31 none false])[H2.length]? = some (.cells [out] 27 none false):=qc4 bB5 _
    have s7:=qfm (H:=H6) (bl:=H2.length) (op:=none) (e:=27) (c:=[out]) (o:=0) (v:=.slice (some ⟨H5.length+1,0,none⟩) (us.length+1) (us.length+1)) rfl rfl (by simp)
    simp (disch:=(first|omega|(simp only [List.length_map];omega)|(simp only [qbf]<;>omega)|(simp only [qbd];done)|rfl)) only [↓qbk,zC,zD,zF,zG,zH,Nat.reduceEqDiff,Nat.reduceLT,Nat.reduceLeDiff,↓reduceIte,qcm,qcr,e5,bB,bB5,S0_bslC,f1,bB6,ea,b6,s7,E_ynB]
    have hh:=h.len
    obtain⟨HF,hHF⟩:∃ HF,HF=H6.set H2.length (.cells [.slice (some ⟨H5.length+1,0,none⟩) (us.length+1) (us.length+1)] 27 none false):=⟨_,rfl⟩
    have sF:H6.set H2.length (.cells ([out].set 0 (.slice (some ⟨H5.length+1,0,none⟩) (us.length+1) (us.length+1))) 27 none false)=HF:=hHF.symm
    have lF:HF.length=H5.length+2:=by rw [hHF,List.length_set,l6]
    have gF:HF[H2.length]? = some (.cells [.slice (some ⟨H5.length+1,0,none⟩) (us.length+1) (us.length+1)] 27 none false):=by rw [hHF];exact List.getElem?_set_self (qbr b6)
    have kF:∀ x,x≠H2.length→HF[x]? = H6[x]?:=fun x hx=>by rw [hHF];exact List.getElem?_set_ne (Ne.symm hx)
    have hout:∀ x,(x<H1.length+4∨Hb.length≤x∨O x∨∃ ys op,Hb[x]? = some (.cells ys 3 op false))→∀ l c,out≠.slice (some ⟨x,0,none⟩) l c:=fun x hx l c ho=>by
      subst ho
      rcases h3 with h3|⟨bb,h5,h6,h7,h8⟩
      · cases h3.1
      · cases h5
        rcases hx with hx|hx|hx|⟨ys,op,hx⟩
        · omega
        · have:=qbr h6;omega
        · exact h7 hx
        · rw [h6] at hx;cases hx
    have kp:∀ x,x<Hb.length→x≠H2.length→x≠H1.length+1→(x<H1.length+4∨Hb.length≤x∨O x∨∃ ys op,Hb[x]? = some (.cells ys 3 op false))→HF[x]? = Hb[x]?:=fun x hx h1 h2 h3=>by
      rw [kF x h1,k6 x (by omega) (hout x h3),hp5 x (by omega),k1 x h2]
    have gL:HF[H1.length+1]? = some (.loop { L with state:=.busy,pending:=L.pending }):=by
      rw [kF _ (by omega),k6 _ (by omega) (hout _ (.inl (by omega))),hp5 _ (by omega)];exact kg
    rw [←hHF]
    refine⟨_,gL,rfl,?_,by simp;omega,fun x hx=>?_⟩
    · have kz:∀ (y:AB) x,x≠H1.length+1→(HF.set (H1.length+1) y)[x]? = HF[x]?:=fun y x hx=>List.getElem?_set_ne (Ne.symm hx)
      refine⟨⟨.slice (some ⟨H5.length+1,0,none⟩) (us.length+1) (us.length+1),us++[.slice (some ⟨b1,0,none⟩) n n],?_,by simp [h2],.inr ⟨H5.length+1,by simp,?_,fun h5=>?_,by omega⟩,fun i hi=>?_⟩,?_,?_,fun x hx hne=>?_,by simp;omega,?_,?_,fun x hx=>by have:=h.own x hx;simp;omega⟩
      · rw [kz _ _ (by omega)];exact gF
      · rw [kz _ _ (by omega),kF _ (by omega)];exact g6
      · have:=(h.own _ h5).2;omega
      · rw [qd1]
        by_cases hit:i<t
        · rw [if_pos (by omega)]
          obtain⟨bl,op',h5,h6,h7,h8⟩:=h4 i hit
          have:=qbr h6
          exact⟨bl,op',h5,by rw [kz _ _ (by omega),kp bl (by omega) (by omega) (by omega) (.inr (.inr (.inr ⟨_,_,h6⟩)))];exact h6,h7,h8⟩
        · rw [if_neg (by omega),if_pos (by omega)]
          have hit':i=t:=by omega
          subst hit'
          have hb1l:=qbr g1
          refine⟨b1,op1,rfl,?_,fun h5=>?_,by omega⟩
          · rw [kz _ _ (by omega),kF _ (by omega),k6 _ hb1l (hout _ (.inr (.inl (by omega)))),g1,hk]
          · have:=(h.own _ h5).2;omega
      · rw [kz _ _ (by omega),kp _ (by omega) (by omega) (by omega) (.inl (by omega))];exact h.ds
      · rw [List.getElem?_set_self (by omega),hL];rfl
      · rw [kz _ _ (by omega),kp _ (by omega) hne (by omega) (.inl (by omega))];exact h.old x hx hne
      · rw [kz _ _ (by omega),kp _ (by omega) (by omega) (by omega) (.inl (by omega))];exact h.yb
      · rw [kz _ _ (by omega),kp _ (by omega) (by omega) (by omega) (.inl (by omega))];exact h.fb
    · have:=h.own x hx
      rw [List.getElem?_set_ne (by omega),kp _ (by omega) (by omega) (by omega) (.inr (.inr (.inl hx)))]
end
end Go.Sim
