/- Part of the proof: MoT, MoK, MoL, MoX, MoM, MoN. -/
import Derived.Test.YtbfpepbfpebmmaaGreatMMatZZzXfC
import Derived.Test.YtbfpepbfpebmmaaGreatMMatMoAToMoJ
import Derived.Test.YtbfpepbfpebmmaaGreatMMatSimSTToShC
set_option linter.all false
namespace Go.Sim
open Go Go.Proofs
def AccS (H0 H:AH) (v:Value) (cs:List Value) (e:TypeId):Prop:=(v=.slice none 0 0∧cs=[])∨∃ b,H0.length≤b∧v=.slice (some ⟨b,0,none⟩) cs.length cs.length∧H[b]? = some (.cells cs e (some 1) false)
theorem AccS.acc {H0 H:AH} {v:Value} {cs:List Value} {e:TypeId} (h:AccS H0 H v cs e):Acc H0 H v cs e:=by
  rcases h with h|⟨b,h1,h2,h3⟩
  · exact .inl ⟨h.2,h.1⟩
  · exact .inr ⟨b,h1,h2,some 1,.inr rfl,h3⟩
theorem AccS.keepHi {H0 H1 H2:AH} {v:Value} {cs:List Value} {t:TypeId} (h:AccS H0 H1 v cs t) (hk:∀ x,H0.length≤x→x<H1.length→H2[x]? = H1[x]?):AccS H0 H2 v cs t:=by
  rcases h with h|⟨bl,h1,rfl,h2⟩
  · exact .inl h
  · exact .inr ⟨bl,h1,rfl,by rw [hk bl h1 (qbx h2)];exact h2⟩
theorem AccS.mono {H0 H1 H:AH} {v:Value} {cs:List Value} {t:TypeId} (h:AccS H0 H v cs t) (hl:H1.length≤H0.length):AccS H1 H v cs t:=by
  rcases h with h|⟨b,h1,h2,h3⟩
  · exact .inl h
  · exact .inr ⟨b,Nat.le_trans hl h1,h2,h3⟩
theorem AccS.app1 {H0 H:AH} (hl0:H0.length≤H.length) {v u:Value} {cs:List Value} {e:TypeId} {by_:Nat} (h:AccS H0 H v cs e) (hu:one u=true) (hb:(cs.length+1)*by_≤140737488355328) (hl:cs.length+1≤9223372036854775807) {e2:TypeId} :
    ∃ v' H',xact (.app e 1 by_) (H++[.cells [u] e2 none false]) [v,.slice (some ⟨H.length,0,none⟩) 1 1]=some (v',H')∧AccS H0 H' v' (cs++[u]) e∧(∀ b,b<H0.length→H'[b]? = H[b]?)∧H.length≤H'.length:=by
  have he:erow (H++[.cells [u] e2 none false]) (.slice (some ⟨H.length,0,none⟩) 1 1) (slen (.slice (some ⟨H.length,0,none⟩) 1 1)*1)=some [u]:=by
    simp [erow,slen]
  have hs:slen (.slice (some ⟨H.length,0,none⟩) 1 1)=1:=rfl
  unfold xact
  simp only [he]
  rcases h with ⟨rfl,rfl⟩|⟨b,hb1,rfl,h2⟩
  · rw [if_pos ⟨by rw [hs];simpa [slen] using hb,by rw [hs];simp [slen],by simpa using hu⟩]
    simp only [hs]
    rw [if_neg (by omega)]
    exact⟨_,_,rfl,.inr ⟨H.length+1,by omega,by simp,by simp⟩,fun b hb=>by rw [List.append_assoc,List.getElem?_append_left (by omega)],by simp⟩
  · have hlt:=qbx h2
    have h2':(H++[AB.cells [u] e2 none false])[b]? = some (.cells cs e (some 1) false):=by rw [List.getElem?_append_left hlt];exact h2
    rw [if_pos ⟨by rw [hs];simpa [slen] using hb,by rw [hs];simpa [slen] using hl,by simpa using hu⟩]
    simp only [h2',hs]
    rw [if_neg (by omega),if_neg (by simp),if_pos (by simp)]
    refine⟨_,_,rfl,.inr ⟨H.length+1,by omega,by simp,by simp⟩,fun b' hb=>?_,by simp;omega⟩
    rw [List.getElem?_append_left (by simp;omega),List.getElem?_set_ne (by omega),List.getElem?_append_left (by omega)]
section
variable {α:Type} [Fl α] [DecidableEq α] {cd:α→Nat} {p e b c q:Nat} {blk:AB} {H:AH}
theorem seq_c (F:FOK α cd p e b c q blk) {two:α} (h2:cd two=2) {l bv bf:Nat} {w:Value} {xs:List α} {Hb0:AH} (hx:xs.length≤1000) (Ib:Nat→AH→Prop) (h0:Ib 0 Hb0)
    (hb:∀ t Hb,Ib t Hb→Hb[bv]? = some (.cells [w] 31 none false)∧Row Hb w (evs cd xs)∧Hb[bf]? = some (fbx p e b c)∧Hb[b]? = some blk)
    (hy:∀ t Hb,t<xs.length→Ib t Hb→YN Tryz.prog l [nv (cd (Fl.mul two (xs.getD t Fl.zero)))] Hb (fun v H'=>v=.bool true∧Ib (t+1) H')) :
    FN Tryz.prog 130 [.func (.yield l) #[] #[],.pointer (some ⟨bv,0,none⟩),.pointer (some ⟨bf,0,none⟩)] Hb0 (fun _ H'=>Ib xs.length H'):=by
  refine g130_of ?_
  unfold g130
  obtain⟨c1,c2,c3,c4⟩:=hb 0 _ h0
  obtain⟨vl,_,_,_⟩:=c2.all Fl.zero
  simp (disch:=omega) only [zA,zB,zC,zD,zF,zG,zH,↓reduceIte,c1,vl]
  refine loopV1.nat xs.length (fun k i H'=>i=nv k∧Ib k H') ⟨rfl,h0⟩ ?_ ?_
  · rintro k i H1 hk ⟨rfl,hI⟩ J hJ
    obtain⟨d1,d2,d3,d4⟩:=hb k _ hI
    obtain⟨_,vi,vd,_⟩:=d2.all Fl.zero
    have hm:=F.mul H1 two (xs.getD k Fl.zero) d4
    rw [h2] at hm
    simp (disch:=omega) only [zA,zB,zC,zD,zF,zG,zH,↓reduceIte,hk,vi,vd,d3]
    refine FZ.use hm ?_
    rw [callZ_y]
    refine YN.mono (hy k H1 hk hI) ?_
    rintro _ H3 ⟨rfl,hI3⟩
    have hk1:k+1<4611686018427387904:=by omega
    simp (disch:=omega) only [zA,zB,zC,zD,zF,zG,zH,↓reduceIte,hk1]
    exact hJ _ _ ⟨rfl,hI3⟩
  · rintro i H1 ⟨rfl,hI⟩ J
    simp (disch:=omega) only [zA,zB,zC,zD,zF,zG,zH,↓reduceIte]
    exact hI
def Isq (cd:α→Nat) (two:α) (xs:List α) (H:AH) (L:ALoop) (t:Nat) (Hb:AH):Prop:=
  ∃ out,Hb[H.length]? = some (.cells [out] 31 none false)∧Hb[H.length+1]? = some (.defs (some []))∧Hb[H.length+2]? = some (.loop L) ∧
    AccS (H++[.cells [.slice none 0 0] 31 none false,.defs (some []),.loop L]) Hb out (evs cd ((xs.map (Fl.mul two)).take t)) 3∧(∀ x,x<H.length→Hb[x]? = H[x]?)∧H.length+3≤Hb.length
theorem appseq_c (F:FOK α cd p e b c q blk) {two:α} (h2:cd two=2) {bv bf:Nat} {w:Value} {xs:List α} (hbv:H[bv]? = some (.cells [w] 31 none false)) (hw:Row H w (evs cd xs)) (hbf:H[bf]? = some (fbx p e b c)) (hb:H[b]? = some blk) (hx:xs.length≤1000) :
    FN Tryz.prog 185 [.slice none 0 0,.func (.func 130) #[] #[.pointer (some ⟨bv,0,none⟩),.pointer (some ⟨bf,0,none⟩)]] H (fun r H'=>Pre H H'∧AccS H H' r (evs cd (xs.map (Fl.mul two))) 3):=by
  refine FN.of_compZ qbt xf185_ok (Nat.le_of_ble_eq_true rfl) ?_
  simp (disch:=omega) only [↓qbp,zC,zD,zF,zG,zH,↓reduceIte,xf185]
  refine X_gen (fun s H'=>s.env 2=.pointer (some ⟨H.length,0,none⟩)∧s.env 6=.func (.func 130) #[] #[.pointer (some ⟨bv,0,none⟩),.pointer (some ⟨bf,0,none⟩)]∧s.ds=[] ∧
     H'=H++[.cells [.slice none 0 0] 31 none false]) ?_ ?_
  · simp (disch:=omega) only [↓qbp,zC,zD,zF,zG,zH,Nat.reduceEqDiff,Nat.reduceLT,Nat.reduceLeDiff,↓reduceIte]
  rintro s H1 ⟨e2,e6,eds,rfl⟩
  refine range_ind (f:=.tmp 6) (g:=130) rfl e6 ?_
  intro assign body hA hB
  simp only [List.length_append,List.length_cons,List.length_nil,List.append_assoc,List.cons_append,List.nil_append,Nat.zero_add,Nat.reduceAdd,Nat.add_assoc]
  obtain⟨L,hL⟩:∃ L,L=qch 13 s #[7] assign body (H.length+1):=⟨_,rfl⟩
  rw [←hL]
  refine FN.mono (seq_c F h2 (xs:=xs) (w:=w) hx (Isq cd two xs H L) ?_ ?_ ?_) ?_
  · refine⟨.slice none 0 0,by simp,by simp,by simp,.inl ⟨rfl,rfl⟩,fun x hx=>List.getElem?_append_left hx,by simp⟩
  · rintro t Hb ⟨out,h1,h3,h4,h5,h6,h7⟩
    have hp:Pre H Hb:=h6
    exact⟨hp.get hbv,hw.pre hp,hp.get hbf,hp.get hb⟩
  · rintro t Hb ht ⟨out,h1,h3,h4,h5,h6,h7⟩
    have hlt:=qbx h4
    obtain⟨H2,hH2⟩:∃ H2,H2=Hb.set (H.length+2) (.loop { L with state:=.busy,pending:=L.pending }):=⟨_,rfl⟩
    have k1:∀ x,x≠H.length+2→H2[x]? = Hb[x]?:=fun x hx=>by rw [hH2];exact List.getElem?_set_ne (Ne.symm hx)
    have kl:H2.length=Hb.length:=by rw [hH2];simp
    have g2:H2[H.length]? = some (.cells [out] 31 none false):=(k1 _ (by omega)).trans h1
    have h5':=h5.keepHi (H2:=H2) fun x hx _=>k1 x (by simp at hx;omega)
    have hlen:(evs cd ((xs.map (Fl.mul two)).take t)).length≤1000:=by simp;omega
    obtain⟨out',H5,e5,ho',hp',hl5⟩:=h5'.app1 (by_:=8) (by simp;omega) (u:=nv (cd (Fl.mul two (xs.getD t Fl.zero)))) rfl (by omega) (by omega) (e2:=3)
    refine YN.introZ qbt (r:=L) h4 (by rw [hL];exact hA) (by rw [hL];exact hB) (by rw [hL];rfl) (by rw [hL];simp [qch]) ?_
    have l1:L.n=13:=by rw [hL];rfl
    have l2:L.env=s.env:=by rw [hL];rfl
    have l3:L.params.toList=[7]:=by rw [hL];rfl
    have l4:L.state=.ready:=by rw [hL];rfl
    have l5:L.pending=L.pending:=rfl
    rw [l1,l2,l3]
    simp (disch:=(first|omega|(simp only [List.length_map];omega)|(simp only [qbj]<;>omega)|(simp only [qbg];done)|rfl)) only [↓qbp,zC,zD,zF,zG,zH,Nat.reduceEqDiff,Nat.reduceLT,Nat.reduceLeDiff,↓reduceIte,qjh,qhv,E_ynA]
    refine⟨L,h4,l4,?_⟩
    rw [←hH2]
    have f1:qbr [nv 0] [(0,1)] [nv (cd (Fl.mul two (xs.getD t Fl.zero)))]=some [nv (cd (Fl.mul two (xs.getD t Fl.zero)))]:=rfl
    have g5:H5[H.length]? = some (.cells [out] 31 none false):=(hp' _ (by simp)).trans g2
    have s5:=qfc (c:=[out]) (e:=31) (op:=none) (H:=H5) (bl:=H.length) (o:=0) (v:=out') ho'.acc.row.cells ho'.acc.row.one (by simp)
    simp (disch:=(first|omega|(simp only [List.length_map];omega)|(simp only [qbj]<;>omega)|(simp only [qbg];done)|rfl)) only [↓qbp,zC,zD,zF,zG,zH,Nat.reduceEqDiff,Nat.reduceLT,Nat.reduceLeDiff,↓reduceIte,qjh,qhv,e2,g2,f1,e5,g5,s5,E_ynB]
    have g6:(H5.set H.length (.cells ([out].set 0 out') 31 none false))[H.length+2]? = some (.loop { L with state:=.busy,pending:=L.pending }):=by
      rw [List.getElem?_set_ne (by omega),hp' _ (by simp),hH2,List.getElem?_set_self hlt]
    have hl5':H.length+3≤H5.length:=by omega
    refine⟨_,g6,rfl,out',?_,?_,?_,?_,fun x hx=>?_,by simp;omega⟩
    · rw [List.getElem?_set_ne (by omega),List.getElem?_set_self (by omega)]
      first|done|rfl
    · rw [List.getElem?_set_ne (by omega),List.getElem?_set_ne (by omega),hp' _ (by simp),k1 _ (by omega)];exact h3
    · rw [List.getElem?_set_self (by simp;omega),hL];rfl
    · have e:(xs.map (Fl.mul two)).take (t+1)=(xs.map (Fl.mul two)).take t++[Fl.mul two (xs.getD t Fl.zero)]:=by
        rw [List.take_succ_eq_append_getElem (by simpa using ht)]
        simp [List.getD_eq_getElem?_getD,List.getElem?_eq_getElem ht]
      rw [e,show evs cd ((xs.map (Fl.mul two)).take t++[Fl.mul two (xs.getD t Fl.zero)])=evs cd ((xs.map (Fl.mul two)).take t)++[nv (cd (Fl.mul two (xs.getD t Fl.zero)))] by simp]
      exact ho'.keepHi fun x hx _=>by
        simp at hx
        rw [List.getElem?_set_ne (by omega),List.getElem?_set_ne (by omega)]
    · rw [List.getElem?_set_ne (by omega),List.getElem?_set_ne (by omega),hp' _ (by simp;omega),k1 _ (by omega)]
      exact h6 x hx
  · rintro v H2 ⟨out,h1,h3,h4,h5,h6,h7⟩
    rw [List.take_of_length_le (by simp)] at h5
    refine⟨L,.normal,h4,by rw [hL];simp [qch],by rw [hL];rfl,?_⟩
    refine EZ_of ?_
    obtain⟨H3,hH3⟩:∃ H3,H3=H2.set (H.length+2) (.loop { L with state:=.exhausted,pending:=L.pending }):=⟨_,rfl⟩
    rw [←hH3]
    have k1:∀ x,x≠H.length+2→H3[x]? = H2[x]?:=fun x hx=>by rw [hH3];exact List.getElem?_set_ne (Ne.symm hx)
    have g3:H3[H.length]? = some (.cells [out] 31 none false):=(k1 _ (by omega)).trans h1
    have g4:H3[H.length+1]? = some (.defs (some [])):=(k1 _ (by omega)).trans h3
    have kl:H3.length=H2.length:=by rw [hH3];simp
    simp (disch:=omega) only [↓qbp,zC,zD,zF,zG,zH,↓reduceIte,e2,xf185,eds,g3]
    rw [unwA_col g4]
    simp (disch:=omega) only [↓qbp,zC,zD,zF,zG,zH,↓reduceIte,e2,xf185,eds,g3]
    have hk:∀ x,x<H.length→(H3.set (H.length+1) (.defs none))[x]? = H[x]?:=fun x hx=>by
      rw [List.getElem?_set_ne (by omega),k1 _ (by omega)];exact h6 x hx
    refine⟨hk,?_⟩
    have:=h5.keepHi (H2:=H3.set (H.length+1) (.defs none)) fun x hx _=>by
      simp at hx
      rw [List.getElem?_set_ne (by omega),k1 _ (by omega)]
    exact this.mono (by simp)
theorem collect_c (F:FOK α cd p e b c q blk) {two:α} (h2:cd two=2) {bv bf:Nat} {w:Value} {xs:List α} (hbv:H[bv]? = some (.cells [w] 31 none false)) (hw:Row H w (evs cd xs)) (hbf:H[bf]? = some (fbx p e b c)) (hb:H[b]? = some blk) (hx:xs.length≤1000) :
    FN Tryz.prog 129 [.func (.func 130) #[] #[.pointer (some ⟨bv,0,none⟩),.pointer (some ⟨bf,0,none⟩)]] H (fun r H'=>Pre H H'∧AccS H H' r (evs cd (xs.map (Fl.mul two))) 3):=by
  refine g129_of ?_
  unfold g129
  refine FZ.mono (appseq_c F h2 hbv hw hbf hb hx) ?_
  rintro r H1 h
  exact h
theorem twice_c (F:FOK α cd p e b c q blk) {two:α} (h2:cd two=2) {bf:Nat} {w:Value} {xs:List α} (hw:Row H w (evs cd xs)) (hbf:H[bf]? = some (fbx p e b c)) (hb:H[b]? = some blk) (hx:xs.length≤1000) :
    FN Tryz.prog 128 [w,.pointer (some ⟨bf,0,none⟩)] H (fun r H'=>Pre H H'∧AccS H H' r (evs cd (xs.map (Fl.mul two))) 3):=by
  refine g128_of ?_
  unfold g128
  have hwo:qbq w=[w]:=hw.cells
  simp (disch:=omega) only [zA,zB,zC,zD,zF,zG,zH,↓reduceIte,hwo,xp_fn2]
  have hp:=Pre.new H [.cells [w] 31 none false]
  refine FZ.mono (collect_c F h2 (bv:=H.length) (w:=w) (by simp) (hw.pre hp) (hp.get hbf) (hp.get hb) hx) ?_
  rintro r H1 ⟨h1,h3⟩
  exact⟨hp.trans h1,h3.mono (by simp)⟩
theorem twice_x (F:FOK α cd p e b c q blk) {two:α} (h2:cd two=2) {bf:Nat} {w:Value} {xs:List α} (hw:Row H w (evs cd xs)) (hbf:H[bf]? = some (fbx p e b c)) (hb:H[b]? = some blk) (hx:xs.length≤1000) (h0:xs≠[]) :
    FN Tryz.prog 128 [w,.pointer (some ⟨bf,0,none⟩)] H (fun r H'=>r=.slice (some ⟨H.length,0,none⟩) xs.length xs.length∧H'=H++[.cells (evs cd (xs.map (Fl.mul two))) 3 (some 1) false]):=by
  have h1:FN Tryz.prog 128 [w,.pointer (some ⟨bf,0,none⟩)] H (fun v H'=>∃ x,H'=H++[x]∧(v=.slice (some ⟨H.length,0,none⟩) xs.length xs.length∧x=.cells (((xs.map (Fl.mul two)).map cd).map nv) 3 (some 1) false)):=
    FN.gc1 (R:=fun v x=>v=.slice (some ⟨H.length,0,none⟩) xs.length xs.length∧x=.cells (((xs.map (Fl.mul two)).map cd).map nv) 3 (some 1) false) ((twice_c F h2 hw hbf hb hx).mono (by
      rintro r H' ⟨hp,h|⟨b1,h3,h4,h5⟩⟩
      · exact absurd h.2 (by simpa using h0)
      · rw [evs_nv] at h5
        exact gc1_nv h3 h5 ⟨hp.len,hp⟩ (by simpa using h4)))
  refine h1.mono ?_
  rintro r _ ⟨x,rfl,rfl,rfl⟩
  exact⟨rfl,by rw [evs_nv]⟩
end
end Go.Sim

namespace Go.Sim
open Go Go.Proofs
section
variable {α:Type} [Fl α] [DecidableEq α] {cd:α→Nat} {p e b c q:Nat} {blk:AB} {H:AH}
theorem xnew_makeB {a:Nat} (h:1*a≤281474976710656) (h2:a≤9223372036854775807):xnew (.make (.bool false) 1 1 4) [nv a,nv a]=some ((List.range a).map (fun _=>.bool false),4,fun b=>.slice (some ⟨b,0,none⟩) a a):=by
  simp only [xnew]
  rw [if_pos ⟨by omega,by omega,by omega,by omega⟩]
  simp only [Int.toNat_natCast,Nat.mul_one]
  congr 2
  unfold madeL madeCells
  refine List.ext_getElem (by simp) fun i h1 h2=>?_
  simp [Value.cells,Nat.mod_one]
def tab (n:Nat) (f:Nat→Value):List Value:=(List.range n).map f
theorem tab_len (n:Nat) (f:Nat→Value):(tab n f).length=n:=by simp [tab]
theorem tab_set {n:Nat} {f g:Nat→Value} {k:Nat} {v:Value} (hk:k<n) (hv:g k=v) (h:∀ j,j<n→j≠k→g j=f j):(tab n f).set k v=tab n g:=by
  refine List.ext_getElem (by simp [tab]) fun i h1 h2=>?_
  have hi:i<n:=by simpa [tab] using h2
  by_cases hik:i=k
  · subst hik;simp [tab,hv]
  · rw [List.getElem_set_ne (Ne.symm hik)];simp [tab,h i hi hik]
theorem qkw {n:Nat} {f g:Nat→Value} (h:∀ j,j<n→f j=g j):tab n f=tab n g:=List.map_congr_left fun j hj=>h j (List.mem_range.1 hj)
theorem tab_ld {n bl k:Nat} {f:Nat→Value} {et:TypeId} {op:Option Nat} {ro:Bool} (h:H[bl]? = some (.cells (tab n f) et op ro)) (hk:k<n):qdq none H[bl]? k=some (f k):=by
  rw [h];simp [qdq,qdw,tab,hk]
theorem tab_ld2 {n k:Nat} {f:Nat→Value} {et:TypeId} {op:Option Nat} {ro:Bool} (hk:k<n):qdq none (some (.cells (tab n f) et op ro)) k=some (f k):=by
  simp [qdq,qdw,tab,hk]
theorem qnq {n bl k:Nat} {f g:Nat→Value} {et:TypeId} {op:Option Nat} {v:Value} (h:H[bl]? = some (.cells (tab n f) et op false)) (hk:k<n) (hc:qbq v=[v]) (h1:one v=true) (hv:g k=v) (hg:∀ j,j<n→j≠k→g j=f j) :
    stB 1 H (some (.cells (tab n f) et op false)) bl k v=some (undef,H.set bl (.cells (tab n g) et op false)):=by
  rw [qfc hc h1 (by rw [tab_len];exact hk),tab_set hk hv hg]
theorem qhn (n:Nat):(List.replicate n 0).map nv=tab n fun _=>nv 0:=by
  refine List.ext_getElem (by simp [tab]) fun i h1 h2=>by simp [tab]
theorem idx_lt {n k:Nat} {g:List Nat} (hg:Pm n g) (hk:k<n) (j:Nat) (hj:j<n):g.idxOf j<k+1↔(g.idxOf j<k∨j=g.getD k 0):=by
  constructor
  · intro h
    by_cases h1:g.idxOf j<k
    · exact .inl h1
    · refine .inr ?_
      have:=(get_idx hg hj).2
      rw [←this];congr 1;omega
  · rintro (h|rfl)
    · omega
    · rw [qnd hg hk];omega
theorem turn1_c (F:FOK α cd p e b c q blk) {w gv x0 x2:Value} {cb gb n:Nat} {g:List Nat} {xs:List α} {et et2:TypeId} {op op2:Option Nat} {ro ro2:Bool} (hcb:H[cb]? = some (.cells [x0,nv n,x2] et op ro)) (hgb:H[gb]? = some (.cells [gv] et2 op2 ro2)) (hgv:Row H gv (g.map nv)) (hg:Pm n g) (hw:Row H w (evs cd xs)) (hl:xs.length=n) (hn:n≤1000) :
    FN Tryz.prog 134 [w,.pointer (some ⟨cb,0,none⟩),.pointer (some ⟨gb,0,none⟩)] H (fun r H'=>Pre H H'∧Row H' r (evs cd (qm7 n g xs))):=by
  refine g134_of ?_
  unfold g134
  have hgl:=hg.len
  have hmk:8*n≤281474976710656:=by omega
  obtain⟨vl,_,_,_⟩:=hw.all Fl.zero
  rw [hl] at vl
  simp (disch:=omega) only [zA,zB,zC,zD,zF,zG,zH,↓reduceIte,hcb,hmk,qc8,vl]
  refine loopV1.nat n (fun k i H'=>i=nv k∧Pre H H'∧H'[H.length]? = some (.cells (tab n fun j=>nv (if g.idxOf j<k then cd (xs.getD (g.idxOf j) Fl.zero) else 0)) 3 none false)) ⟨rfl,Pre.new _ _,?_⟩ ?_ ?_
  · rw [qhn];simp
  · rintro k i H2 hk ⟨rfl,hp,hb⟩ J hJ
    have hk':k<g.length:=by omega
    have hkx:k<xs.length:=by omega
    obtain⟨_,wi,wd,_⟩:=(hw.pre hp).all Fl.zero
    obtain⟨_,gi,gd,_⟩:=(hgv.pre hp).all 0
    have hgb2:=hp.get hgb
    have hlt:=hg.lt hk
    have st:=qnq (k:=g.getD k 0) (v:=nv (cd (xs.getD k Fl.zero))) (g:=fun j=>nv (if g.idxOf j<k+1 then cd (xs.getD (g.idxOf j) Fl.zero) else 0)) hb hlt rfl rfl (by rw [qnd hg hk,if_pos (by omega)]) (fun j hj hne=>by
      congr 1
      have h1:=idx_lt hg hk j hj
      by_cases h2:g.idxOf j<k
      · rw [if_pos h2,if_pos (by omega)]
      · rw [if_neg h2,if_neg (fun h3=>(h1.1 h3).elim h2 hne)])
    simp (disch:=omega) only [zA,zB,zC,zD,zF,zG,zH,↓reduceIte,hk,wi,wd,hkx,hgb2,gi,gd,hk',hlt,hb,st]
    exact hJ _ _ ⟨rfl,hp.set (Nat.le_refl _) _,List.getElem?_set_self (qbx hb)⟩
  · rintro i H2 ⟨rfl,hp,hb⟩ J
    simp (disch:=omega) only [zA,zB,zC,zD,zF,zG,zH,↓reduceIte]
    refine⟨hp,?_⟩
    have e1:evs cd (qm7 n g xs)=tab n fun j=>nv (if g.idxOf j<n then cd (xs.getD (g.idxOf j) Fl.zero) else 0):=by
      unfold qm7 pick tab evs
      rw [List.map_map]
      refine List.map_congr_left fun j hj=>?_
      rw [if_pos (get_idx hg (List.mem_range.1 hj)).1];rfl
    rw [e1]
    exact Row.of hb (by rw [tab_len]) (Nat.le_refl _)
theorem turn_c (Q:FQ α cd p e q blk) {v gv:Value} {n:Nat} {g:List Nat} {G:List (List α)} (hv:RowR H v (evr cd G)) (hgv:Row H gv (g.map nv)) (hg:Pm n g) (hl:∀ x∈G,x.length=n) (hG:G.length≤400) (hn:n≤1000) (hn0:0<n) :
    FN Tryz.prog 76 [codv q n v,gv] H (RetC cd q n (qbk (G.map (qm7 n g))) H):=by
  refine g76_of ?_
  unfold g76
  have ho:=hv.one'
  have hgl:=hg.len
  have hmk:1*n≤281474976710656:=by omega
  have hgc:=hgv.cells
  obtain⟨gl,gi,gd,gd2⟩:=hgv.all 0
  rw [hgl] at gl
  simp (disch:=omega) only [zA,zB,zC,zD,zF,zG,zH,↓reduceIte,hgc,gl,hmk,xnew_makeB]
  have hX0:=Pre.new H [.cells [nv q,nv n,v] 29 none false,.cells [gv] 31 none false,.cells [nv 0,nv 0,.slice none 0 0] 29 none false]
  refine loopV1.nat n (fun k i H'=>i=nv k∧Pre (H++[.cells [nv q,nv n,v] 29 none false,.cells [gv] 31 none false,.cells [nv 0,nv 0,.slice none 0 0] 29 none false]) H'∧H'[H.length+3]? = some (.cells (tab n fun j=>.bool (decide (g.idxOf j<k))) 4 none false)) ⟨rfl,?_,?_⟩ ?_ ?_
  · exact fun x hx=>by
      have hx':x<H.length+3:=by simpa using hx
      by_cases h1:x<H.length
      · rw [List.getElem?_append_left h1,List.getElem?_append_left h1]
      · rw [List.getElem?_append_right (by omega),List.getElem?_append_right (by omega)]
        have:x-H.length=0∨x-H.length=1∨x-H.length=2:=by omega
        rcases this with h|h|h<;>rw [h]<;>rfl
  · simp [tab]
  · rintro k i H2 hk ⟨rfl,hp,hb⟩ J hJ
    have hc2:H2[H.length]? = some (.cells [nv q,nv n,v] 29 none false):=hp.get (by simp)
    have hk':k<g.length:=by omega
    obtain⟨_,ki,kd,_⟩:=((hgv.pre hX0).pre hp).all 0
    have hlt:=hg.lt hk
    have hlt':¬n≤g.getD k 0:=by omega
    have ld:=tab_ld2 (f:=fun j=>.bool (decide (g.idxOf j<k))) (et:=4) (op:=none) (ro:=false) hlt
    simp only [qnd hg hk,Nat.lt_irrefl,decide_false] at ld
    have st:=qnq (k:=g.getD k 0) (v:=.bool true) (g:=fun j=>.bool (decide (g.idxOf j<k+1))) hb hlt rfl rfl (by rw [qnd hg hk,decide_eq_true (by omega)]) (fun j hj hne=>by
      congr 1
      have h1:=idx_lt hg hk j hj
      rw [decide_eq_decide]
      exact⟨fun h=>(h1.1 h).elim id (fun h=>absurd h hne),fun h=>by omega⟩)
    simp (disch:=omega) only [zA,zB,zC,zD,zF,zG,zH,↓reduceIte,hk,ki,kd,hk',hc2,hlt,hlt',ld,hb,st]
    exact hJ _ _ ⟨rfl,hp.set (by simp) _,List.getElem?_set_self (qbx hb)⟩
  · rintro i H5 ⟨rfl,hp,hb⟩ J
    have hc5:H5[H.length]? = some (.cells [nv q,nv n,v] 29 none false):=hp.get (by simp)
    have hg5:H5[H.length+1]? = some (.cells [gv] 31 none false):=hp.get (by simp)
    have hX:=hX0.trans hp
    obtain⟨gl5,_,_,_⟩:=(hgv.pre hX).all 0
    rw [hgl] at gl5
    simp (disch:=omega) only [zA,zB,zC,zD,zF,zG,zH,↓reduceIte,hg5,gl5,hc5,xp_fn2]
    refine FZ.mono (qjz (T:=qm7 n g) (hv.pre hX) (by omega) (fun x hx w H1 hp1 hw=>?_)) ?_
    · exact turn1_c (Q.ok 0) (hp1.get hc5) (hp1.get hg5) ((hgv.pre hX).pre hp1) hg hw (hl x hx) hn
    rintro r9 H9 ⟨hp9,hr9⟩
    have hc9:=hp9.get hc5
    simp (disch:=omega) only [zA,zB,zC,zD,zF,zG,zH,↓reduceIte,hc9]
    refine FZ.mono (qhx Q hr9 ((LM.pick n n (fun j=>g.idxOf j)).width hl) (by rw [List.length_map];omega) (by omega) hn0) ?_
    rintro _ H10 ⟨hp10,w,rfl,hw⟩
    have hpall:=hp.trans (hp9.trans hp10)
    have hb10:H10[H.length+2]? = some (.cells [nv 0,nv 0,.slice none 0 0] 29 none false):=hpall.get (by simp)
    have s9:=qbs (H:=H10) (bl:=H.length+2) (x:=nv q) (y:=nv n) (z:=w) (c0:=nv 0) (c1:=nv 0) (c2:=.slice none 0 0) (e:=29) (op:=none) rfl rfl hw.one
    have g9:(H10.set (H.length+2) (.cells [nv q,nv n,w] 29 none false))[H.length+2]? = some (.cells [nv q,nv n,w] 29 none false):=List.getElem?_set_self (qbx hb10)
    simp (disch:=omega) only [zA,zB,zC,zD,zF,zG,zH,↓reduceIte,hb10,s9,g9]
    have hl9:=(hp.trans hp9).len
    simp only [List.length_append,List.length_cons,List.length_nil] at hl9
    exact⟨(hX0.trans hpall).set (by omega) _,w,rfl,(hw.setLow (by omega)).mono (by omega)⟩
end
end Go.Sim

namespace Go.Sim
open Go Go.Proofs
theorem Lw.RowLo.isSl {n:Nat} {H:AH} {v:Value} {css:List (List Value)} (h:Lw.RowLo n H v css):isSl v=true:=by obtain⟨_,h,_⟩:=h;exact h.1.isSl
theorem qb7 {q n er:Nat} {w:Value} (h:isSl w=true):qbr [nv 0,nv 0,.slice none 0 0,nv 0] [(0,3),(3,1)] [codv q n w,nv er]=some [nv q,nv n,w,nv er]:=by
  cases w<;>simp [isSl] at h
  rfl
section
variable {α:Type} [Fl α] [DecidableEq α] {cd:α→Nat} {p e b c q:Nat} {blk:AB} {H:AH}
theorem extended_c (Q:FQ α cd p e q blk) {v:Value} {n:Nat} {G:List (List α)} (hv:RowR H v (evr cd G)) (hl:∀ x∈G,x.length=n) (hG:G.length≤400) (hn:n<24) (hn0:0<n) :
    FN Tryz.prog 16 [codv q n v] H (RetG cd q (n+1) (qbk (G.map (lext n))) H):=by
  refine g16_of ?_
  unfold g16
  have ho:=hv.one'
  simp (disch:=omega) only [zA,zB,zC,zD,zF,zG,zH,↓reduceIte]
  have hX:=Pre.new H [.cells [nv q,nv n,v] 29 none false,.cells [nv 0,nv 0,.slice none 0 0,nv 0] 37 none false]
  refine FZ.mono (extend_c Q (hv.pre hX) hl hG hn hn0) ?_
  rintro _ H3 ⟨hp3,w9,rfl,hw9⟩
  have s4:=qbs (H:=H3++[.cells [nv 0,nv 0,.slice none 0 0] 29 none false]) (bl:=H3.length) (x:=nv q) (y:=nv (n+1)) (z:=w9) (c0:=nv 0) (c1:=nv 0) (c2:=.slice none 0 0) (e:=29) (op:=none) rfl rfl hw9.one
  rw [qb2] at s4
  have hb3:H3[H.length+1]? = some (.cells [nv 0,nv 0,.slice none 0 0,nv 0] 37 none false):=hp3.get (by simp)
  have hb4:=qdr hb3 [.cells [nv q,nv (n+1),w9] 29 none false]
  have s6:=qcj (H:=H3++[.cells [nv q,nv (n+1),w9] 29 none false]) (bl:=H.length+1) (x:=nv q) (y:=nv (n+1)) (z:=w9) (u:=nv 0) (c0:=nv 0) (c1:=nv 0) (c2:=.slice none 0 0) (c3:=nv 0) (e:=37) (op:=none) rfl rfl hw9.one rfl
  have g6:((H3++[AB.cells [nv q,nv (n+1),w9] 29 none false]).set (H.length+1) (AB.cells [nv q,nv (n+1),w9,nv 0] 37 none false))[H.length+1]? = some (.cells [nv q,nv (n+1),w9,nv 0] 37 none false):=List.getElem?_set_self (qbx hb4)
  have f4:=qb7 (q:=q) (n:=(n+1)) (er:=0) hw9.isSl
  simp (disch:=omega) only [zA,zB,zC,zD,zF,zG,zH,↓reduceIte,s4,hb4,f4,s6,g6]
  refine⟨((hX.trans hp3).app _).set (by omega) _,w9,rfl,?_⟩
  exact ((hw9.pre (Pre.new H3 _)).setLow (by simp)).mono (by simp)
theorem punctured_c (Q:FQ α cd p e q blk) {v:Value} {n i:Nat} {G:List (List α)} (hv:RowR H v (evr cd G)) (hl:∀ x∈G,x.length=n) (hG:G.length≤400) (hn:n≤1000) (hn2:2≤n) (hi:i<n) :
    FN Tryz.prog 18 [codv q n v,nv i] H (RetG cd q (n-1) (qbk (G.map (pick (n-1) (qc0 i)))) H):=by
  refine g18_of ?_
  unfold g18
  have ho:=hv.one'
  simp (disch:=omega) only [zA,zB,zC,zD,zF,zG,zH,↓reduceIte]
  have hX:=Pre.new H [.cells [nv q,nv n,v] 29 none false,.cells [nv 0,nv 0,.slice none 0 0,nv 0] 37 none false]
  refine FZ.mono (puncture_c Q (hv.pre hX) hl hG hn hn2 hi) ?_
  rintro _ H3 ⟨hp3,w9,rfl,hw9⟩
  have s4:=qbs (H:=H3++[.cells [nv 0,nv 0,.slice none 0 0] 29 none false]) (bl:=H3.length) (x:=nv q) (y:=nv (n-1)) (z:=w9) (c0:=nv 0) (c1:=nv 0) (c2:=.slice none 0 0) (e:=29) (op:=none) rfl rfl hw9.one
  rw [qb2] at s4
  have hb3:H3[H.length+1]? = some (.cells [nv 0,nv 0,.slice none 0 0,nv 0] 37 none false):=hp3.get (by simp)
  have hb4:=qdr hb3 [.cells [nv q,nv (n-1),w9] 29 none false]
  have s6:=qcj (H:=H3++[.cells [nv q,nv (n-1),w9] 29 none false]) (bl:=H.length+1) (x:=nv q) (y:=nv (n-1)) (z:=w9) (u:=nv 0) (c0:=nv 0) (c1:=nv 0) (c2:=.slice none 0 0) (c3:=nv 0) (e:=37) (op:=none) rfl rfl hw9.one rfl
  have g6:((H3++[AB.cells [nv q,nv (n-1),w9] 29 none false]).set (H.length+1) (AB.cells [nv q,nv (n-1),w9,nv 0] 37 none false))[H.length+1]? = some (.cells [nv q,nv (n-1),w9,nv 0] 37 none false):=List.getElem?_set_self (qbx hb4)
  have f4:=qb7 (q:=q) (n:=(n-1)) (er:=0) hw9.isSl
  simp (disch:=omega) only [zA,zB,zC,zD,zF,zG,zH,↓reduceIte,s4,hb4,f4,s6,g6]
  refine⟨((hX.trans hp3).app _).set (by omega) _,w9,rfl,?_⟩
  exact ((hw9.pre (Pre.new H3 _)).setLow (by simp)).mono (by simp)
theorem shortened_c (Q:FQ α cd p e q blk) {v:Value} {n i:Nat} {G:List (List α)} (hv:RowR H v (evr cd G)) (hl:∀ x∈G,x.length=n) (hG:G.length≤400) (hn:n≤1000) (hn2:2≤n) (hi:i<n) :
    FN Tryz.prog 20 [codv q n v,nv i] H (RetG cd q (n-1) (qbk ((qf0 (fun v=>v i) G).map (pick (n-1) (qc0 i)))) H):=by
  refine g20_of ?_
  unfold g20
  have ho:=hv.one'
  simp (disch:=omega) only [zA,zB,zC,zD,zF,zG,zH,↓reduceIte]
  have hX:=Pre.new H [.cells [nv q,nv n,v] 29 none false,.cells [nv 0,nv 0,.slice none 0 0,nv 0] 37 none false]
  refine FZ.mono (shorten_c Q (hv.pre hX) hl hG hn hn2 hi) ?_
  rintro _ H3 ⟨hp3,w9,rfl,hw9⟩
  have s4:=qbs (H:=H3++[.cells [nv 0,nv 0,.slice none 0 0] 29 none false]) (bl:=H3.length) (x:=nv q) (y:=nv (n-1)) (z:=w9) (c0:=nv 0) (c1:=nv 0) (c2:=.slice none 0 0) (e:=29) (op:=none) rfl rfl hw9.one
  rw [qb2] at s4
  have hb3:H3[H.length+1]? = some (.cells [nv 0,nv 0,.slice none 0 0,nv 0] 37 none false):=hp3.get (by simp)
  have hb4:=qdr hb3 [.cells [nv q,nv (n-1),w9] 29 none false]
  have s6:=qcj (H:=H3++[.cells [nv q,nv (n-1),w9] 29 none false]) (bl:=H.length+1) (x:=nv q) (y:=nv (n-1)) (z:=w9) (u:=nv 0) (c0:=nv 0) (c1:=nv 0) (c2:=.slice none 0 0) (c3:=nv 0) (e:=37) (op:=none) rfl rfl hw9.one rfl
  have g6:((H3++[AB.cells [nv q,nv (n-1),w9] 29 none false]).set (H.length+1) (AB.cells [nv q,nv (n-1),w9,nv 0] 37 none false))[H.length+1]? = some (.cells [nv q,nv (n-1),w9,nv 0] 37 none false):=List.getElem?_set_self (qbx hb4)
  have f4:=qb7 (q:=q) (n:=(n-1)) (er:=0) hw9.isSl
  simp (disch:=omega) only [zA,zB,zC,zD,zF,zG,zH,↓reduceIte,s4,hb4,f4,s6,g6]
  refine⟨((hX.trans hp3).app _).set (by omega) _,w9,rfl,?_⟩
  exact ((hw9.pre (Pre.new H3 _)).setLow (by simp)).mono (by simp)
theorem summed_c (Q:FQ α cd p e q blk) {v w:Value} {n m:Nat} {A B:List (List α)} (hv:RowR H v (evr cd A)) (hw:RowR H w (evr cd B)) (hA:∀ x∈A,x.length=n) (hB:∀ x∈B,x.length=m) (hlA:A.length≤200) (hlB:B.length≤200) (hn0:0<n) (hm0:0<m) (hnm:n+m≤24) :
    FN Tryz.prog 22 [codv q n v,codv q m w] H (RetG cd q (n+m) (qbk (lsum n m A B)) H):=by
  refine g22_of ?_
  unfold g22
  have ho:=hv.one'
  have ho2:=hw.one'
  simp (disch:=omega) only [zA,zB,zC,zD,zF,zG,zH,↓reduceIte,ho2]
  have hX:=Pre.new H [.cells [nv q,nv n,v] 29 none false,.cells [nv q,nv m,w] 29 none false,.cells [nv 0,nv 0,.slice none 0 0,nv 0] 37 none false]
  refine FZ.mono (msum_c Q (hv.pre hX) (hw.pre hX) hA hB hlA hlB hn0 hm0 hnm) ?_
  rintro _ H3 ⟨hp3,w9,rfl,hw9⟩
  have s4:=qbs (H:=H3++[.cells [nv 0,nv 0,.slice none 0 0] 29 none false]) (bl:=H3.length) (x:=nv q) (y:=nv (n+m)) (z:=w9) (c0:=nv 0) (c1:=nv 0) (c2:=.slice none 0 0) (e:=29) (op:=none) rfl rfl hw9.one
  rw [qb2] at s4
  have hb3:H3[H.length+2]? = some (.cells [nv 0,nv 0,.slice none 0 0,nv 0] 37 none false):=hp3.get (by simp)
  have hb4:=qdr hb3 [.cells [nv q,nv (n+m),w9] 29 none false]
  have s6:=qcj (H:=H3++[.cells [nv q,nv (n+m),w9] 29 none false]) (bl:=H.length+2) (x:=nv q) (y:=nv (n+m)) (z:=w9) (u:=nv 0) (c0:=nv 0) (c1:=nv 0) (c2:=.slice none 0 0) (c3:=nv 0) (e:=37) (op:=none) rfl rfl hw9.one rfl
  have g6:((H3++[AB.cells [nv q,nv (n+m),w9] 29 none false]).set (H.length+2) (AB.cells [nv q,nv (n+m),w9,nv 0] 37 none false))[H.length+2]? = some (.cells [nv q,nv (n+m),w9,nv 0] 37 none false):=List.getElem?_set_self (qbx hb4)
  have f4:=qb7 (q:=q) (n:=(n+m)) (er:=0) hw9.isSl
  simp (disch:=omega) only [zA,zB,zC,zD,zF,zG,zH,↓reduceIte,s4,hb4,f4,s6,g6]
  refine⟨((hX.trans hp3).app _).set (by omega) _,w9,rfl,?_⟩
  exact ((hw9.pre (Pre.new H3 _)).setLow (by simp)).mono (by simp)
theorem evened_c (Q:FQ α cd p e 2 blk) {v:Value} {n:Nat} {G:List (List α)} (hv:RowR H v (evr cd G)) (hl:∀ x∈G,x.length=n) (hG:G.length≤400) (hn:n≤1000) (hn0:0<n) :
    FN Tryz.prog 28 [codv 2 n v] H (RetG cd 2 n (lev (vsum n) G) H):=by
  refine g28_of ?_
  unfold g28
  have ho:=hv.one'
  simp (disch:=omega) only [zA,zB,zC,zD,zF,zG,zH,↓reduceIte]
  have hX:=Pre.new H [.cells [nv 2,nv n,v] 29 none false,.cells [nv 0,nv 0,.slice none 0 0,nv 0] 37 none false]
  refine FZ.mono (even_c Q (hv.pre hX) hl hG hn hn0) ?_
  rintro _ H3 ⟨hp3,w9,rfl,hw9⟩
  have s4:=qbs (H:=H3++[.cells [nv 0,nv 0,.slice none 0 0] 29 none false]) (bl:=H3.length) (x:=nv 2) (y:=nv n) (z:=w9) (c0:=nv 0) (c1:=nv 0) (c2:=.slice none 0 0) (e:=29) (op:=none) rfl rfl hw9.one
  rw [qb2] at s4
  have hb3:H3[H.length+1]? = some (.cells [nv 0,nv 0,.slice none 0 0,nv 0] 37 none false):=hp3.get (by simp)
  have hb4:=qdr hb3 [.cells [nv 2,nv n,w9] 29 none false]
  have s6:=qcj (H:=H3++[.cells [nv 2,nv n,w9] 29 none false]) (bl:=H.length+1) (x:=nv 2) (y:=nv n) (z:=w9) (u:=nv 0) (c0:=nv 0) (c1:=nv 0) (c2:=.slice none 0 0) (c3:=nv 0) (e:=37) (op:=none) rfl rfl hw9.one rfl
  have g6:((H3++[AB.cells [nv 2,nv n,w9] 29 none false]).set (H.length+1) (AB.cells [nv 2,nv n,w9,nv 0] 37 none false))[H.length+1]? = some (.cells [nv 2,nv n,w9,nv 0] 37 none false):=List.getElem?_set_self (qbx hb4)
  have f4:=qb7 (q:=2) (n:=n) (er:=0) hw9.isSl
  simp (disch:=omega) only [zA,zB,zC,zD,zF,zG,zH,↓reduceIte,s4,hb4,f4,s6,g6]
  refine⟨((hX.trans hp3).app _).set (by omega) _,w9,rfl,?_⟩
  exact ((hw9.pre (Pre.new H3 _)).setLow (by simp)).mono (by simp)
theorem turned_c (Q:FQ α cd p e q blk) {v gv:Value} {n:Nat} {g:List Nat} {G:List (List α)} (hv:RowR H v (evr cd G)) (hgv:Row H gv (g.map nv)) (hg:Pm n g) (hl:∀ x∈G,x.length=n) (hG:G.length≤400) (hn:n≤1000) (hn0:0<n) :
    FN Tryz.prog 30 [codv q n v,gv] H (RetG cd q n (qbk (G.map (qm7 n g))) H):=by
  refine g30_of ?_
  unfold g30
  have ho:=hv.one'
  simp (disch:=omega) only [zA,zB,zC,zD,zF,zG,zH,↓reduceIte]
  have hX:=Pre.new H [.cells [nv q,nv n,v] 29 none false,.cells [nv 0,nv 0,.slice none 0 0,nv 0] 37 none false]
  refine FZ.mono (turn_c Q (hv.pre hX) (hgv.pre hX) hg hl hG hn hn0) ?_
  rintro _ H3 ⟨hp3,w9,rfl,hw9⟩
  have s4:=qbs (H:=H3++[.cells [nv 0,nv 0,.slice none 0 0] 29 none false]) (bl:=H3.length) (x:=nv q) (y:=nv n) (z:=w9) (c0:=nv 0) (c1:=nv 0) (c2:=.slice none 0 0) (e:=29) (op:=none) rfl rfl hw9.one
  rw [qb2] at s4
  have hb3:H3[H.length+1]? = some (.cells [nv 0,nv 0,.slice none 0 0,nv 0] 37 none false):=hp3.get (by simp)
  have hb4:=qdr hb3 [.cells [nv q,nv n,w9] 29 none false]
  have s6:=qcj (H:=H3++[.cells [nv q,nv n,w9] 29 none false]) (bl:=H.length+1) (x:=nv q) (y:=nv n) (z:=w9) (u:=nv 0) (c0:=nv 0) (c1:=nv 0) (c2:=.slice none 0 0) (c3:=nv 0) (e:=37) (op:=none) rfl rfl hw9.one rfl
  have g6:((H3++[AB.cells [nv q,nv n,w9] 29 none false]).set (H.length+1) (AB.cells [nv q,nv n,w9,nv 0] 37 none false))[H.length+1]? = some (.cells [nv q,nv n,w9,nv 0] 37 none false):=List.getElem?_set_self (qbx hb4)
  have f4:=qb7 (q:=q) (n:=n) (er:=0) hw9.isSl
  simp (disch:=omega) only [zA,zB,zC,zD,zF,zG,zH,↓reduceIte,s4,hb4,f4,s6,g6]
  refine⟨((hX.trans hp3).app _).set (by omega) _,w9,rfl,?_⟩
  exact ((hw9.pre (Pre.new H3 _)).setLow (by simp)).mono (by simp)
end
end Go.Sim

namespace Go.Sim
open Go Go.Proofs
def repE (g h:List Nat) (u j:Nat):Nat:=(u % 2*g.getD j 0+u / 2*h.getD j 0) % 2
def repL (m:Nat) (g h:List Nat) (us:List Nat):List Nat:=us.flatMap fun u=>(List.range m).map (repE g h u)
theorem qp3 (m:Nat) (g h:List Nat):∀ us:List Nat,(repL m g h us).length=us.length*m
  | []=>by simp [repL]
  | u :: us=>by
    have:=qp3 m g h us
    unfold repL at this ⊢
    rw [List.flatMap_cons,List.length_append,this,List.length_map,List.length_range,List.length_cons,Nat.succ_mul,Nat.add_comm]
theorem repL_snoc (m:Nat) (g h:List Nat) (us:List Nat) (u:Nat):repL m g h (us++[u])=repL m g h us++(List.range m).map (repE g h u):=by
  simp [repL]
theorem and_one {u:Nat} (hu:u<4):xbin .and 0 (nv u) (nv 1)=some (nv (u % 2)):=by
  have:u=0∨u=1∨u=2∨u=3:=by omega
  rcases this with rfl|rfl|rfl|rfl<;>rfl
theorem shr_one {u:Nat} (hu:u<4):xbin .shr 0 (nv u) (.int .u64 1)=some (nv (u / 2)):=by
  have:u=0∨u=1∨u=2∨u=3:=by omega
  rcases this with rfl|rfl|rfl|rfl<;>rfl
theorem mul_bit {a b:Nat} (ha:a<2) (hb:b<2):xbin .mul 0 (nv a) (nv b)=some (nv (a*b))∧a*b<2:=by
  have h1:a=0∨a=1:=by omega
  have h2:b=0∨b=1:=by omega
  rcases h1 with rfl|rfl<;>rcases h2 with rfl|rfl<;>exact⟨rfl,by decide⟩
theorem xor_bit {a b:Nat} (ha:a<2) (hb:b<2):xbin .xor 0 (nv a) (nv b)=some (nv ((a+b) % 2)):=by
  have h1:a=0∨a=1:=by omega
  have h2:b=0∨b=1:=by omega
  rcases h1 with rfl|rfl<;>rcases h2 with rfl|rfl<;>rfl
theorem qqc {l:List Nat} {k:Nat} (h:∀ z∈l,z<2):l.getD k 0<2:=by
  by_cases hk:k<l.length
  · exact h _ (getD_mem hk)
  · rw [List.getD_eq_getElem?_getD,List.getElem?_eq_none (by omega)];decide
theorem repl_c {H:AH} {v vi x0:Value} {bb m:Nat} {us:List Nat} {B:List (List Nat)} (hbb:H[bb]? = some (.cells [x0,nv m,vi] 29 none false)) (hvi:RowR H vi (B.map fun l=>l.map nv)) (hB:B.length=2) (hBl:∀ l∈B,l.length=m∧∀ z∈l,z<2)
    (hv:Row H v (us.map nv)) (hus:∀ u∈us,u<4) (hul:us.length*m≤1000) (hm:m≤1000) (hul2:us.length≤1000) :
    FN Tryz.prog 127 [v,.pointer (some ⟨bb,0,none⟩)] H (fun r H'=>Pre H H'∧Acc H H' r ((repL m (B.getD 0 []) (B.getD 1 []) us).map nv) 3):=by
  refine g127_of ?_
  unfold g127
  obtain⟨vs,hvs,hvl,hvr⟩:=hvi.openN
  obtain⟨vl,_,_,_⟩:=hv.all 0
  obtain⟨hg0,hg1⟩:=hBl _ (getD_mem (l:=B) (k:=0) (d:=[]) (by omega))
  obtain⟨hh0,hh1⟩:=hBl _ (getD_mem (l:=B) (k:=1) (d:=[]) (by omega))
  have r0:=hvr 0 (by omega)
  have r1:=hvr 1 (by omega)
  obtain⟨g,hg⟩:∃ g,g=B.getD 0 []:=⟨_,rfl⟩
  obtain⟨h,hh⟩:∃ h,h=B.getD 1 []:=⟨_,rfl⟩
  rw [←hg] at hg0 hg1 r0 ⊢
  rw [←hh] at hh0 hh1 r1 ⊢
  obtain⟨w0,hw0⟩:∃ w,w=vs.getD 0 undef:=⟨_,rfl⟩
  obtain⟨w1,hw1⟩:∃ w,w=vs.getD 1 undef:=⟨_,rfl⟩
  rw [←hw0] at r0
  rw [←hw1] at r1
  simp (disch:=omega) only [zA,zB,zC,zD,zF,zG,zH,↓reduceIte,vl]
  refine loopV2.nat us.length (fun k out i H'=>i=nv k∧Pre H H'∧Acc H H' out ((repL m g h (us.take k)).map nv) 3) ⟨rfl,Pre.refl _,Acc.nil⟩ ?_ ?_
  · rintro k out i H1 hk ⟨rfl,hp1,ho⟩ J hJ
    obtain⟨_,vi',vd,_⟩:=(hv.pre hp1).all 0
    have c1:=hp1.get hbb
    have hu4:us.getD k 0<4:=hus _ (getD_mem hk)
    obtain⟨u,hu⟩:∃ u,u=us.getD k 0:=⟨_,rfl⟩
    have hkm:(k+1)*m≤1000:=Nat.le_trans (Nat.mul_le_mul_right m hk) hul
    have hkm':k*m+m≤1000:=by rw [Nat.succ_mul] at hkm;exact hkm
    have hlen0:(repL m g h (us.take k)).length=k*m:=by rw [qp3,List.length_take,Nat.min_eq_left (by omega)]
    have hus':us.take (k+1)=us.take k++[u]:=by
      rw [List.take_succ_eq_append_getElem hk,hu]
      simp [List.getD_eq_getElem?_getD,List.getElem?_eq_getElem hk]
    rw [←hu] at hu4
    simp (disch:=omega) only [zA,zB,zC,zD,zF,zG,zH,↓reduceIte,hk,vi',vd,c1]
    rw [←hu]
    refine loopV2.nat m (fun j out i H'=>i=nv j∧Pre H H'∧Acc H H' out ((repL m g h (us.take k)++(List.range j).map (repE g h u)).map nv) 3) ⟨rfl,hp1,by simpa using ho⟩ ?_ ?_
    · rintro j out i H2 hj ⟨rfl,hp2,ho2⟩ J2 hJ2
      have c2:=hp2.get hbb
      obtain⟨tl,ti,td,_⟩:=(hvs.pre hp2).allV
      have t0:=ti 0 (by omega)
      have t1:=ti 1 (by omega)
      have d0:=td 0 (by omega)
      have d1:=td 1 (by omega)
      rw [←hw0] at d0
      rw [←hw1] at d1
      obtain⟨_,i0,e0,_⟩:=(r0.pre hp2).all 0
      obtain⟨_,i1,e1,_⟩:=(r1.pre hp2).all 0
      have hjg:j<g.length:=by omega
      have hjh:j<h.length:=by omega
      have q1:=and_one hu4
      have q2:=shr_one hu4
      obtain⟨q3,q3'⟩:=mul_bit (a:=u % 2) (b:=g.getD j 0) (by omega) (qqc hg1)
      obtain⟨q4,q4'⟩:=mul_bit (a:=u / 2) (b:=h.getD j 0) (by omega) (qqc hh1)
      have q5:=xor_bit q3' q4'
      have hl2:((repL m g h (us.take k)++(List.range j).map (repE g h u)).map nv).length≤1000:=by simp [hlen0];omega
      obtain⟨out',H5,e5,ho',hp',_⟩:=ho2.app1 (by_:=8) hp2.len (u:=nv ((u % 2*g.getD j 0+u / 2*h.getD j 0) % 2)) rfl (by omega) (by omega) (e2:=3)
      have f5:qbr [nv 0] [(0,1)] [nv ((u % 2*g.getD j 0+u / 2*h.getD j 0) % 2)]=some [nv ((u % 2*g.getD j 0+u / 2*h.getD j 0) % 2)]:=rfl
      simp (disch:=omega) only [zA,zB,zC,zD,zF,zG,zH,↓reduceIte,hj,q1,c2,t0,t1,d0,d1,i0,i1,e0,e1,hjg,hjh,q2,q3,q4,q5,f5,e5]
      refine hJ2 _ _ _ ⟨rfl,hp' hp2,?_⟩
      have e:(repL m g h (us.take k)++(List.range (j+1)).map (repE g h u)).map nv=(repL m g h (us.take k)++(List.range j).map (repE g h u)).map nv++[nv ((u % 2*g.getD j 0+u / 2*h.getD j 0) % 2)]:=by
        simp [List.range_succ,repE]
      rw [e]
      exact ho'
    · rintro out i H2 ⟨rfl,hp2,ho2⟩ J2
      simp (disch:=omega) only [zA,zB,zC,zD,zF,zG,zH,↓reduceIte]
      refine hJ _ _ _ ⟨rfl,hp2,?_⟩
      rw [hus',repL_snoc]
      exact ho2
  · rintro out i H1 ⟨rfl,hp1,ho⟩ J
    rw [List.take_length] at ho
    simp (disch:=omega) only [zA,zB,zC,zD,zF,zG,zH,↓reduceIte]
    exact⟨hp1,ho⟩
section
variable {α β:Type} [Fl α] [Fl β] [DecidableEq α] [DecidableEq β] {cda:α→Nat} {cdb:β→Nat} {p e p2 e2:Nat} {blk blk2:AB} {H:AH}
theorem each_b {v:Value} {G:List (List α)} {F:Nat} {cap:Array Value} {T:List α→List β} (hv:RowR H v (evr cda G)) (hn:G.length≤100000)
    (hF:∀ x∈G,∀ (w:Value) (H1:AH),Pre H H1→Row H1 w (evs cda x)→FN Tryz.prog F (w :: cap.toList) H1 (fun r H2=>Pre H1 H2∧Row H2 r (evs cdb (T x)))) :
    FN Tryz.prog 113 [v,.func (.func F) #[] cap] H (fun r H'=>Pre H H'∧RowR H' r (evr cdb (G.map T))):=by
  refine (each_c (Ts:=evr cdb (G.map T)) hv (by simp) (by simpa using hn) (fun t ht=>?_) fun k w H1 hk hp hw=>?_).mono fun r H' h=>⟨h.1,h.2.rowR⟩
  · obtain⟨x,_,rfl⟩:=List.mem_map.1 ht;exact qb3 _
  · have hk':k<G.length:=by simpa using hk
    rw [qkd] at hw
    have e1:(evr cdb (G.map T)).getD k []=evs cdb (T (G.getD k [])):=by
      rw [qkd]
      simp [List.getD_eq_getElem?_getD,List.getElem?_eq_getElem hk']
    rw [e1]
    exact hF _ (getD_mem hk') w H1 hp hw
def lcat (two:α) (A:List (List α)):List (List α):=A++A.map fun x=>x.map (Fl.mul two)
theorem mconcat_c (Q4:FQ α cda p e 4 blk) (Q2:FQ β cdb p2 e2 2 blk2) {two:α} (h2:cda two=2) {v w:Value} {n m:Nat} {A:List (List α)} {B:List (List β)} (rep:List α→List β)
    (hrep:∀ x:List α,(rep x).map cdb=repL m ((B.getD 0 []).map cdb) ((B.getD 1 []).map cdb) (x.map cda)) (hv:RowR H v (evr cda A)) (hw:RowR H w (evr cdb B)) (hA:∀ x∈A,x.length=n) (hB:∀ x∈B,x.length=m) (hB2:B.length=2) (hlA:A.length≤100) (hn0:0<n) (hm0:0<m) (hnm:n*m≤24) :
    FN Tryz.prog 73 [codv 4 n v,codv 2 m w] H (RetC cdb 2 (n*m) (qbk ((lcat two A).map rep)) H):=by
  refine g73_of ?_
  unfold g73
  have hn24:n≤24:=Nat.le_trans (Nat.le_mul_of_pos_right n hm0) hnm
  have hm24:m≤24:=Nat.le_trans (Nat.le_mul_of_pos_left m hn0) hnm
  have ho:=hv.one'
  have ho2:=hw.one'
  have hnm':¬24<n*m:=by omega
  obtain⟨ws,hws,hwl,_⟩:=RowR.openN (H:=H++[.cells [nv 4,nv n,v] 29 none false,.cells [nv 2,nv m,w] 29 none false,.cells [nv 0,nv 0,.slice none 0 0] 29 none false]) (v:=w) (xss:=B.map fun l=>l.map cdb) (by rw [←evr_nv];exact hw.pre (Pre.new _ _))
  obtain⟨wl,_,_,_⟩:=hws.allV
  have hwl2:ws.length=2:=by simpa [hB2] using hwl
  have hmul:n*m<9223372036854775808:=by omega
  simp (disch:=omega) only [zA,zB,zC,zD,zF,zG,zH,↓reduceIte,ho,ho2,wl,hwl2,hnm',hmul,qjt]
  have hX:=Pre.new H [.cells [nv 4,nv n,v] 29 none false,.cells [nv 2,nv m,w] 29 none false,.cells [nv 0,nv 0,.slice none 0 0] 29 none false]
  clear hws wl
  obtain⟨HX,hHX⟩:∃ HX,HX=H++[.cells [nv 4,nv n,v] 29 none false,.cells [nv 2,nv m,w] 29 none false,.cells [nv 0,nv 0,.slice none 0 0] 29 none false]:=⟨_,rfl⟩
  have g0:HX[H.length]? = some (.cells [nv 4,nv n,v] 29 none false):=by rw [hHX];simp
  have g1:HX[H.length+1]? = some (.cells [nv 2,nv m,w] 29 none false):=by rw [hHX];simp
  have g2:HX[H.length+2]? = some (.cells [nv 0,nv 0,.slice none 0 0] 29 none false):=by rw [hHX];simp
  have hXl:HX.length=H.length+3:=by rw [hHX];simp
  rw [←hHX] at hX ⊢
  clear hHX
  refine FZ.use (Q4.make _) ?_
  have s4:=qbs (H:=HX++[blk,.cells [nv 0,nv 0,.slice none 0 0] 76 none false]) (bl:=HX.length+1) (x:=nv p) (y:=nv e) (z:=.slice (some ⟨HX.length,0,none⟩) e e) (c0:=nv 0) (c1:=nv 0) (c2:=.slice none 0 0) (e:=76) (op:=none) rfl rfl rfl
  have e4:(HX++[blk,.cells [nv 0,nv 0,.slice none 0 0] 76 none false]).set (HX.length+1) (.cells [nv p,nv e,.slice (some ⟨HX.length,0,none⟩) e e] 76 none false)=HX++[blk,fbx p e HX.length e]:=by
    rw [List.set_append_right _ _ (by omega)];simp
  rw [e4] at s4
  have hp0:=Pre.new HX [blk,fbx p e HX.length e]
  have c0:=hp0.get g0
  have gb:(HX++[blk,fbx p e HX.length e])[HX.length]? = some blk:=by simp
  have gf:(HX++[blk,fbx p e HX.length e])[HX.length+1]? = some (fbx p e HX.length e):=by simp
  simp (disch:=omega) only [zA,zB,zC,zD,zF,zG,zH,↓reduceIte,s4,c0,qjt]
  have hA':∀ x∈A,x.length≤1000:=fun x hx=>by rw [hA x hx];omega
  refine FZ.mono (qjz (T:=fun x=>x.map (Fl.mul two)) (hv.pre (hX.trans hp0)) (by omega) (fun x hx w H1 hp hw=>?_)) ?_
  · exact FN.mono (twice_c (Q4.ok _) h2 hw (hp.get gf) (hp.get gb) (hA' x hx)) fun r H' h=>⟨h.1,h.2.acc.row⟩
  rintro r8 H8 ⟨hp8,hr8⟩
  have hX8:=hX.trans (hp0.trans hp8)
  have hp08:=hp0.trans hp8
  have d0:=hp08.get g0
  have d1:=hp08.get g1
  have hv8:=hv.pre hX8
  have f8:=hr8.fill
  have f9:=hv8.fill
  simp (disch:=(first|omega|(simp only [qbj]<;>omega)|(simp only [qbg];done)|rfl)) only [zA,zB,zC,zD,zF,zG,zH,Nat.reduceEqDiff,Nat.reduceLT,Nat.reduceLeDiff,↓reduceIte,d0,d1,hmul,f8,f9]
  have hp10:=Pre.new H8 [.cells [v,r8] 27 none false]
  refine FZ.mono (all2_c (et:=27) (op:=none) (bl:=H8.length) (v:=v) (w:=r8) (by simp) (hv8.pre hp10) (hr8.pre hp10) (by omega) (by simp;omega)) ?_
  rintro r11 H11 ⟨hp11,hr11⟩
  have hp011:=hp08.trans (hp10.trans hp11)
  have e0:=hp011.get g0
  have e1:=hp011.get g1
  simp (disch:=omega) only [zA,zB,zC,zD,zF,zG,zH,↓reduceIte,e0,e1]
  have hlc:(lcat two A).length≤200:=by simp [lcat];omega
  have hwid:∀ x∈lcat two A,x.length=n:=by
    intro x hx
    rcases List.mem_append.1 hx with h|h
    · exact hA x h
    · obtain⟨y,hy,rfl⟩:=List.mem_map.1 h;rw [List.length_map];exact hA y hy
  have hBx:∀ l∈B.map (fun l=>l.map cdb),l.length=m∧∀ z∈l,z<2:=by
    intro l hl
    obtain⟨y,hy,rfl⟩:=List.mem_map.1 hl
    refine⟨by rw [List.length_map];exact hB y hy,fun z hz=>?_⟩
    obtain⟨a,_,rfl⟩:=List.mem_map.1 hz
    exact (Q2.ok 0).lt a
  have eB:∀ k,(B.map fun l=>l.map cdb).getD k []=(B.getD k []).map cdb:=fun k=>by
    simp only [List.getD_eq_getElem?_getD,List.getElem?_map]
    cases B[k]?<;>rfl
  refine FZ.mono (each_b (cdb:=cdb) (T:=rep) hr11 (by simp;omega) (fun x hx w9 H1 hp hw9=>?_)) ?_
  · have hxl:=hwid x hx
    have:=repl_c (us:=x.map cda) (B:=B.map fun l=>l.map cdb) (hp.get e1) (by rw [←evr_nv];exact hw.pre (hX.trans (hp011.trans hp))) (by rw [List.length_map];exact hB2) hBx (by rw [←evs_nv];exact hw9) (fun u hu=>by obtain⟨a,_,rfl⟩:=List.mem_map.1 hu;exact (Q4.ok 0).lt a) (by rw [List.length_map,hxl];omega) (by omega) (by rw [List.length_map,hxl];omega)
    rw [eB,eB,←hrep x] at this
    refine FN.mono this fun r H' h=>⟨h.1,?_⟩
    rw [evs_nv];exact h.2.row
  rintro r12 H12 ⟨hp12,hr12⟩
  have k0:=hp12.get e0
  have k1:=hp12.get e1
  simp (disch:=omega) only [zA,zB,zC,zD,zF,zG,zH,↓reduceIte,k0,k1]
  have hrl:∀ x∈(lcat two A).map rep,x.length=n*m:=by
    intro x hx
    obtain⟨y,hy,rfl⟩:=List.mem_map.1 hx
    have:=congrArg List.length (hrep y)
    rw [List.length_map,qp3,List.length_map,hwid y hy] at this
    exact this
  refine FZ.mono (qhx Q2 hr12 hrl (by simp;omega) (by omega) (Nat.mul_pos hn0 hm0)) ?_
  rintro _ H13 ⟨hp13,w13,rfl,hw13⟩
  have hpall:=hp011.trans (hp12.trans hp13)
  have hc:=hpall.get g2
  have s9:=qbs (H:=H13) (bl:=H.length+2) (x:=nv 2) (y:=nv (n*m)) (z:=w13) (c0:=nv 0) (c1:=nv 0) (c2:=.slice none 0 0) (e:=29) (op:=none) rfl rfl hw13.one
  have g9:(H13.set (H.length+2) (.cells [nv 2,nv (n*m),w13] 29 none false))[H.length+2]? = some (.cells [nv 2,nv (n*m),w13] 29 none false):=List.getElem?_set_self (qbx hc)
  simp (disch:=omega) only [zA,zB,zC,zD,zF,zG,zH,↓reduceIte,hc,s9,g9]
  have hl12:=(hp011.trans hp12).len
  exact⟨(hX.trans hpall).set (by omega) _,w13,rfl,(hw13.setLow (by omega)).mono (by omega)⟩
end
end Go.Sim

namespace Go.Sim
open Go Go.Proofs
abbrev bv (k:Nat):Value:=.int .u8 (k:Int)
section
variable {α:Type} [Fl α] [DecidableEq α] {cd:α→Nat} {p e b c q:Nat} {blk:AB} {H:AH}
theorem bv_ld {v:Value} {us:List Nat} (hv:Row H v (us.map bv)) {k:Nat} (hk:k<us.length):qbd none H [qfj v k]=some (bv (us.getD k 0)):=by
  have:=hv.ldM 0 hk;exact this
theorem getD_lt {us:List Nat} {m k:Nat} (h:∀ u∈us,u<m) (hk:k<us.length):us.getD k 0<m:=h _ (getD_mem hk)
def qms (us:List Nat) (i:Nat):Nat:=if i<us.length then us.getD i 0 else 0
theorem at_c {v:Value} {us:List Nat} {i:Nat} (hus:∀ u∈us,u<256) (hv:Row H v (us.map bv)):FN Tryz.prog 63 [v,nv i] H (fun r H'=>r=nv (qms us i)∧H'=H):=by
  refine g63_of ?_
  unfold g63
  have vl:=hv.len
  rw [List.length_map] at vl
  by_cases h:i<us.length
  · have h':¬us.length≤i:=by omega
    have vi:=hv.ix (k:=i) (by rw [List.length_map];exact h)
    have ld:=bv_ld hv h
    have hu:=getD_lt hus h
    have cv:qbc (.conv .i64) [bv (us.getD i 0)]=some (nv (us.getD i 0)):=qcx (by omega)
    simp (disch:=omega) only [zA,zB,zC,zD,zF,zG,zH,↓reduceIte,vl,h',vi,ld,cv]
    unfold qms;rw [if_pos h]
  · have h':us.length≤i:=by omega
    simp (disch:=omega) only [zA,zB,zC,zD,zF,zG,zH,↓reduceIte,vl,h']
    unfold qms;rw [if_neg h]
theorem own_upto {H0:AH} {v:Value} {cs:List Value} {e:TypeId} {at_:Nat} (h:Own H0 H v cs e) (ha:at_≤cs.length):∃ u,qbc (.slS 1 false true) [v,nv at_]=some u∧RowX H u (cs.take at_):=by
  obtain⟨b,_,rfl,op,_,hb⟩:=h
  exact⟨_,qf8 ha,RowX.of_take hb ha (by omega)⟩
theorem own_from {H0:AH} {v:Value} {cs:List Value} {e:TypeId} {at_:Nat} (h:Own H0 H v cs e) (ha:at_≤cs.length):∃ u,qbc (.slS 1 true false) [v,nv at_]=some u∧RowX H u (cs.drop at_):=by
  obtain⟨b,hb0,rfl,op,ho,hb⟩:=h
  by_cases h0:at_=0
  · subst h0
    refine⟨.slice (some ⟨b,0,none⟩) cs.length cs.length,?_,?_⟩
    · simp [qbc,bnds]
    · have:=RowX.of_take (k:=cs.length) (c:=cs.length) hb (Nat.le_refl _) (Nat.le_refl _)
      rw [List.take_of_length_le (Nat.le_refl _)] at this
      simpa using this
  · by_cases hl:at_<cs.length
    · obtain⟨u,e1,hr⟩:=(Row.of (n:=cs.length) (c:=cs.length) hb rfl (Nat.le_refl _)).from hl
      exact⟨u,e1,hr.x (by intro h;have:=congrArg List.length h;simp at this;omega)⟩
    · have:at_=cs.length:=by omega
      subst this
      refine⟨.slice (some ⟨b,0,some 0⟩) 0 0,?_,⟨.inl ⟨by simp,_,_,rfl⟩,?_⟩⟩
      · simp only [qbc,bnds,Option.getD_some,Option.getD_none]
        rw [if_pos ⟨trivial,by omega,by omega,by omega⟩,if_neg (by omega),if_neg (by omega)]
      · simp [slen,erow]
theorem Acc.appG {H0 H:AH} (hl0:H0.length≤H.length) {v u:Value} {cs us:List Value} {e:TypeId} {by_:Nat} (h:Acc H0 H v cs e) (hu:RowX H u us) (h1:us.all one=true) (hb:(cs.length+us.length)*by_≤140737488355328) (hl:cs.length+us.length≤9223372036854775807) :
    ∃ v' H',xact (.app e 1 by_) H [v,u]=some (v',H')∧Acc H0 H' v' (cs++us) e∧(∀ b,b<H.length→(∀ l c,v≠.slice (some ⟨b,0,none⟩) l c)→H'[b]? = H[b]?)∧H.length≤H'.length:=by
  have he:=hu.2
  have hs:=hu.1.slen
  unfold xact
  simp only [he]
  rcases h with ⟨rfl,rfl⟩|⟨b,hb1,rfl,op,h3,h2⟩
  · rw [if_pos ⟨by rw [hs];simpa [Sim.slen] using hb,by rw [hs];simpa [Sim.slen] using hl,h1⟩]
    by_cases h0:us.length=0
    · have:us=[]:=List.eq_nil_of_length_eq_zero h0
      subst this
      simp only [hs,List.length_nil,if_true]
      exact⟨_,_,rfl,.inl ⟨rfl,rfl⟩,fun _ _ _=>rfl,Nat.le_refl _⟩
    · simp only [hs,if_neg h0]
      exact⟨_,_,rfl,.inr ⟨H.length,hl0,by simp,some 1,.inr rfl,by simp⟩,fun b hb _=>List.getElem?_append_left (by omega),by simp⟩
  · rw [if_pos ⟨by rw [hs];simpa [Sim.slen] using hb,by rw [hs];simpa [Sim.slen] using hl,h1⟩]
    simp only [h2,hs]
    by_cases h0:us.length=0
    · have:us=[]:=List.eq_nil_of_length_eq_zero h0
      subst this
      simp only [List.length_nil,Nat.add_zero,Nat.le_refl,if_true]
      exact⟨_,_,rfl,.inr ⟨b,hb1,by simp,op,h3,by simpa using h2⟩,fun _ _ _=>rfl,Nat.le_refl _⟩
    · rw [if_neg (by omega)]
      rcases h3 with rfl|rfl
      · rw [if_pos rfl,if_pos (by simp)]
        exact⟨_,_,rfl,.inr ⟨H.length,by omega,by simp,some 1,.inr rfl,by simp⟩,fun b hb _=>List.getElem?_append_left (by omega),by simp⟩
      · rw [if_neg (by simp),if_pos (by simp)]
        exact⟨_,_,rfl,.inr ⟨H.length,by omega,by simp,some 1,.inr rfl,by simp⟩,fun b' hb hne=>by rw [List.getElem?_append_left (by simp;omega),List.getElem?_set_ne (fun h=>hne _ _ (by rw [h]))],by simp⟩
def shuf (us:List Nat):Nat→List Nat
  | 0=>[]
  | i+1=>(shuf us i).take (qms us i % (i+1))++i :: (shuf us i).drop (qms us i % (i+1))
theorem shuf_pm (us:List Nat):∀ n,Pm n (shuf us n)
  | 0=>by unfold Pm;exact List.Perm.refl _
  | n+1=>(shuf_pm us n).put
theorem shuffledO_c {v:Value} {us:List Nat} {n:Nat} (hus:∀ u∈us,u<256) (hv:Row H v (us.map bv)) (hn:n≤1000):FN Tryz.prog 13 [nv n,v] H (fun r H'=>Pre H H'∧Own H H' r ((shuf us n).map nv) 3):=by
  refine g13_of ?_
  unfold g13
  simp (disch:=omega) only [zA,zB,zC,zD,zF,zG,zH,↓reduceIte]
  refine loopV2.nat n (fun k out i H'=>i=nv k∧Pre H H'∧Own H H' out ((shuf us k).map nv) 3) ⟨rfl,Pre.new _ _,Own.new (Nat.le_refl _) rfl⟩ ?_ ?_
  · rintro k out i H2 hk ⟨rfl,hp,ho⟩ J hJ
    simp (disch:=omega) only [zA,zB,zC,zD,zF,zG,zH,↓reduceIte,hk]
    refine FZ.use (at_c hus (hv.pre hp)) ?_
    have hsl:=(shuf_pm us k).len
    have hlt:qms us k % (k+1)<k+1:=Nat.mod_lt _ (by omega)
    obtain⟨a,ha⟩:∃ a,a=qms us k % (k+1):=⟨_,rfl⟩
    have ha':a≤((shuf us k).map nv).length:=by rw [List.length_map,hsl];omega
    have h3:Pre H2 (H2++[.cells [] 3 none false,.cells [nv k] 3 none false]):=Pre.new _ _
    obtain⟨u1,e1,r1⟩:=own_upto ho ha'
    obtain⟨u2,e2,r2⟩:=own_from ho ha'
    have hl1:(((shuf us k).map nv).take a).length=a:=by rw [List.length_take];omega
    have hl2:(((shuf us k).map nv).drop a).length=k-a:=by rw [List.length_drop,List.length_map,hsl]
    have o1:∀ l:List Nat,(l.map nv).all one=true:=fun l=>by simp [one]
    have oa:(((shuf us k).map nv).take a).all one=true:=by rw [←List.map_take];exact o1 _
    have ob:(((shuf us k).map nv).drop a).all one=true:=by rw [←List.map_drop];exact o1 _
    have hown:Own H2 (H2++[.cells [] 3 none false,.cells [nv k] 3 none false]) (.slice (some ⟨H2.length,0,none⟩) 0 0) [] 3:=Own.new (Nat.le_refl _) (cs:=[]) rfl
    obtain⟨v1,H6,f1,a1,k1,l1⟩:=Acc.appG (by_:=8) (by simp) hown.acc (r1.pre h3) oa (by rw [hl1];simp;omega) (by rw [hl1];simp;omega)
    have hp6:Pre H2 H6:=fun x hx=>by
      rw [k1 x (by simp;omega) (by rintro l c h;cases h;omega)]
      exact h3 x hx
    have g6:H6[H2.length+1]? = some (.cells [nv k] 3 none false):=by
      rw [k1 _ (by simp) (by intro l c h;simp at h)];simp
    have r6:RowX H6 (.slice (some ⟨H2.length+1,0,none⟩) 1 1) [nv k]:=(Row.of (n:=1) (c:=1) g6 rfl (Nat.le_refl _)).x (by simp)
    simp only [List.nil_append] at a1
    obtain⟨v2,H7,f2,a2,k2,l2⟩:=Acc.appR (by_:=8) hp6.len a1 r6 (by simp [one]) (by rw [hl1];simp;omega) (by rw [hl1];simp;omega)
    have hp7:=k2 hp6
    obtain⟨v3,H8,f3,a3,k3,l3⟩:=Acc.appR (by_:=8) hp7.len a2 (r2.pre hp7) ob (by rw [List.length_append,hl1,hl2];simp;omega) (by rw [List.length_append,hl1,hl2];simp;omega)
    have hp8:=k3 hp7
    rw [ha] at e1 e2
    have hb9:qms us k<9223372036854775807:=by
      unfold qms
      split
      · rename_i h;have:=getD_lt hus h;omega
      · omega
    simp (disch:=(first|omega|(simp only [qbj]<;>omega)|(simp only [qbg];done)|rfl)) only [zA,zB,zC,zD,zF,zG,zH,Nat.reduceEqDiff,Nat.reduceLT,Nat.reduceLeDiff,↓reduceIte,e1,e2,f1,f2,f3]
    refine hJ _ _ _ ⟨rfl,hp.trans hp8,?_⟩
    have hfin:(shuf us (k+1)).map nv=((shuf us k).map nv).take a++[nv k]++((shuf us k).map nv).drop a:=by
      rw [ha];simp [shuf]
    rw [hfin]
    exact (a3.mono hp.len).own (by simp)
  · rintro out i H3 ⟨rfl,hp,ho⟩ J
    simp (disch:=omega) only [zA,zB,zC,zD,zF,zG,zH,↓reduceIte]
    exact⟨hp,ho⟩
theorem bytes_c {z0 z1 z2 z3 z4 z5:Nat}:FN Tryz.prog 14 [.agg [bv z0,bv z1,bv z2,bv z3,bv z4,bv z5].toArray] H (fun r H'=>Pre H H'∧Row H' r ([z0,z1,z2,z3,z4,z5].map bv)):=by
  refine g14_of ?_
  unfold g14
  simp (disch:=omega) only [zA,zB,zC,zD,zF,zG,zH,↓reduceIte]
  obtain⟨zs,hzs⟩:∃ zs,zs=[z0,z1,z2,z3,z4,z5]:=⟨_,rfl⟩
  have hzl:zs.length=6:=by rw [hzs];rfl
  refine loopV2.nat 6 (fun k out i H'=>i=nv k∧Pre (H++[.cells [bv z0,bv z1,bv z2,bv z3,bv z4,bv z5] 25 none false]) H'∧Acc (H++[.cells [bv z0,bv z1,bv z2,bv z3,bv z4,bv z5] 25 none false]) H' out ((zs.take k).map bv) 5) ⟨rfl,Pre.snoc _ _ _,Acc.start1 rfl⟩ ?_ ?_
  · rintro k out i H3 hk ⟨rfl,hp,ho⟩ J hJ
    have hb3:H3[H.length]? = some (.cells [bv z0,bv z1,bv z2,bv z3,bv z4,bv z5] 25 none false):=hp.get (by simp)
    have ld:qdq none (some (.cells [bv z0,bv z1,bv z2,bv z3,bv z4,bv z5] 25 none false)) k=some (bv (zs.getD k 0)):=by
      rw [hzs]
      have:k=0∨k=1∨k=2∨k=3∨k=4∨k=5:=by omega
      rcases this with rfl|rfl|rfl|rfl|rfl|rfl<;>rfl
    have hlen:((zs.take k).map bv).length≤6:=by simp;omega
    obtain⟨out',H5,e1,ho',hp',_⟩:=ho.app1 (by_:=1) hp.len (u:=bv (zs.getD k 0)) rfl (by omega) (by omega) (e2:=5)
    simp (disch:=(first|omega|(simp only [qbj]<;>omega)|(simp only [qbg];done)|rfl)) only [zA,zB,zC,zD,zF,zG,zH,Nat.reduceEqDiff,Nat.reduceLT,Nat.reduceLeDiff,↓reduceIte,hk,hb3,ld,e1]
    refine hJ _ _ _ ⟨rfl,hp' hp,?_⟩
    rw [List.take_succ_eq_append_getElem (by omega),List.map_append]
    simpa [List.getD_eq_getElem?_getD,List.getElem?_eq_getElem (show k<zs.length by omega)] using ho'
  · rintro out i H3 ⟨rfl,hp,ho⟩ J
    simp (disch:=omega) only [zA,zB,zC,zD,zF,zG,zH,↓reduceIte]
    rw [List.take_of_length_le (by omega),hzs] at ho
    exact⟨(Pre.new H _).trans hp,ho.row⟩
end
end Go.Sim

namespace Go.Sim
open Go Go.Proofs
section
variable {α:Type} [Fl α] [DecidableEq α] {cd:α→Nat} {p e b c q:Nat} {blk:AB} {H:AH}
theorem qkj {n:Nat} (hn:n≤1000):FN Tryz.prog 60 [nv n] H (fun r H'=>r=.slice (some ⟨H.length,0,none⟩) n n∧H'=H++[.cells ((List.replicate n 0).map nv) 3 none false]):=by
  refine g60_of ?_
  unfold g60
  have hmk:8*n≤281474976710656:=by omega
  simp (disch:=omega) only [zA,zB,zC,zD,zF,zG,zH,↓reduceIte,hmk,qc8]
theorem over_c (Q:FQ α cd p e q blk):FN Tryz.prog 62 [nv q] H (fun r H'=>Pre H H'∧∃ b,r=fldv p e b e e∧H'[b]? = some blk):=by
  refine g62_of ?_
  unfold g62
  simp (disch:=omega) only [zA,zB,zC,zD,zF,zG,zH,↓reduceIte]
  refine FZ.use (Q.rmake _) ?_
  have s3:=qbs (H:=H++[.cells [nv 0,nv 0,.slice none 0 0] 76 none false,blk,.cells [nv 0,nv 0,.slice none 0 0] 76 none false]) (bl:=H.length+2) (x:=nv p) (y:=nv e) (z:=.slice (some ⟨H.length+1,0,none⟩) e e) (c0:=nv 0) (c1:=nv 0) (c2:=.slice none 0 0) (e:=76) (op:=none) rfl rfl rfl
  have e3:(H++[.cells [nv 0,nv 0,.slice none 0 0] 76 none false,blk,.cells [nv 0,nv 0,.slice none 0 0] 76 none false]).set (H.length+2) (.cells [nv p,nv e,.slice (some ⟨H.length+1,0,none⟩) e e] 76 none false)=H++[.cells [nv 0,nv 0,.slice none 0 0] 76 none false,blk,fbx p e (H.length+1) e]:=by
    rw [List.set_append_right _ _ (by omega)];simp
  rw [e3] at s3
  have s4:=qbs (H:=H++[.cells [nv 0,nv 0,.slice none 0 0] 76 none false,blk,fbx p e (H.length+1) e]) (bl:=H.length) (x:=nv p) (y:=nv e) (z:=.slice (some ⟨H.length+1,0,none⟩) e e) (c0:=nv 0) (c1:=nv 0) (c2:=.slice none 0 0) (e:=76) (op:=none) rfl rfl rfl
  have e4:(H++[.cells [nv 0,nv 0,.slice none 0 0] 76 none false,blk,fbx p e (H.length+1) e]).set H.length (.cells [nv p,nv e,.slice (some ⟨H.length+1,0,none⟩) e e] 76 none false)=H++[fbx p e (H.length+1) e,blk,fbx p e (H.length+1) e]:=by
    rw [List.set_append_right _ _ (by omega)];simp
  rw [e4] at s4
  simp (disch:=omega) only [zA,zB,zC,zD,zF,zG,zH,↓reduceIte,s3,s4]
  exact⟨Pre.new _ _,H.length+1,rfl,by simp⟩
theorem rem8 {u m:Nat} (hm:m≠0):xbin .rem 0 (bv u) (.int .u8 (m:Int))=some (bv (u % m)):=qkr hm
theorem ix6 {b j:Nat} (hj:j<6):qbc (.ixS 1) [.slice (some ⟨b,0,none⟩) 6 6,bv j]=some (.pointer (some ⟨b,j,none⟩)):=by
  have:j=0∨j=1∨j=2∨j=3∨j=4∨j=5:=by omega
  rcases this with rfl|rfl|rfl|rfl|rfl|rfl<;>rfl
def mostM (j:Nat):Nat:=[8,5,4,3,2,2].getD j 0
theorem ld6 {j:Nat} (hj:j<6):qdq none (some (.cells [nv 2,nv 3,nv 4,nv 5,nv 7,nv 8] 3 none false)) j=some (nv (Pf.ordM j)):=by
  have:j=0∨j=1∨j=2∨j=3∨j=4∨j=5:=by omega
  rcases this with rfl|rfl|rfl|rfl|rfl|rfl<;>rfl
theorem ld6' {j:Nat} (hj:j<6):qdq none (some (.cells [nv 8,nv 5,nv 4,nv 3,nv 2,nv 2] 3 none false)) j=some (nv (mostM j)):=by
  have:j=0∨j=1∨j=2∨j=3∨j=4∨j=5:=by omega
  rcases this with rfl|rfl|rfl|rfl|rfl|rfl<;>rfl
theorem most_le {j:Nat} (hj:j<6):mostM j≤8∧Pf.ordM j≤8∧2≤Pf.ordM j:=by
  have:j=0∨j=1∨j=2∨j=3∨j=4∨j=5:=by omega
  rcases this with rfl|rfl|rfl|rfl|rfl|rfl<;>decide
abbrev rawv (k n m:Nat) (x:Value):Value:=.agg [bv k,bv n,bv m,x].toArray
theorem made_c {j:Nat} (Q:FQ α cd p e (Pf.ordM j) blk) {x:Value} {us:List Nat} {k n m:Nat} (hk:k % 6=j) (hm:m<256) (hus:∀ u∈us,u<256) (hx:Row H x (us.map bv)) :
    FN Tryz.prog 12 [rawv k n m x] H (fun r H'=>Pre H H'∧∃ w A,r=codv (Pf.ordM j) (1+n % 10) w∧LRed (1+n % 10) A∧A.length≤8∧Lw.RowLo H.length H' w (evr cd A)):=by
  refine g12_of ?_
  unfold g12
  have hj:j<6:=by omega
  obtain⟨hm8,hq8,hq2⟩:=most_le hj
  obtain⟨q,hq⟩:∃ q,q=Pf.ordM j:=⟨_,rfl⟩
  obtain⟨mo,hmo⟩:∃ mo,mo=mostM j:=⟨_,rfl⟩
  rw [←hq] at Q hq8 hq2 ⊢
  rw [←hmo] at hm8
  have r6:xbin .rem 0 (bv k) (.int .u8 6)=some (bv j):=by rw [←hk];exact rem8 (m:=6) (by decide)
  have r10:xbin .rem 0 (bv n) (.int .u8 10)=some (bv (n % 10)):=rem8 (m:=10) (by decide)
  have c1:qbc (.conv .i64) [bv (n % 10)]=some (nv (n % 10)):=qcx (by omega)
  have c3:qbc (.conv .i64) [bv m]=some (nv m):=qcx (by omega)
  have hxo:=hx.one
  have hxc:=hx.cells
  obtain⟨N,hN⟩:∃ N,N=1+n % 10:=⟨_,rfl⟩
  have hN10:N≤10:=by omega
  have hN1:1≤N:=by omega
  have l6:=ld6 hj
  have l6':=ld6' hj
  rw [←hq] at l6
  rw [←hmo] at l6'
  simp (disch:=(first|omega|(simp only [qbj]<;>omega)|(simp only [qbg];done)|rfl)) only [zA,zB,zC,zD,zF,zG,zH,Nat.reduceEqDiff,Nat.reduceLT,Nat.reduceLeDiff,↓reduceIte,r6,r10,c1,c3,ix6,hj,l6,l6']
  rw [←hN]
  obtain⟨kk,hkk⟩:∃ kk,kk=m % (mo+1):=⟨_,rfl⟩
  have hkk8:kk≤8:=by have:=Nat.mod_lt m (show 0<mo+1 by omega);omega
  rw [←hkk]
  have hX0:=Pre.new H [.cells [bv k,bv n,bv m,x] 24 none false,.cells [nv 0,nv 0,.slice none 0 0] 29 none false,.cells [nv 2,nv 3,nv 4,nv 5,nv 7,nv 8] 3 none false,.cells [nv 8,nv 5,nv 4,nv 3,nv 2,nv 2] 3 none false]
  obtain⟨HX,hHX⟩:∃ HX,HX=H++[.cells [bv k,bv n,bv m,x] 24 none false,.cells [nv 0,nv 0,.slice none 0 0] 29 none false,.cells [nv 2,nv 3,nv 4,nv 5,nv 7,nv 8] 3 none false,.cells [nv 8,nv 5,nv 4,nv 3,nv 2,nv 2] 3 none false]:=⟨_,rfl⟩
  have hXl:HX.length=H.length+4:=by rw [hHX];simp
  have gx:HX[H.length]? = some (.cells [bv k,bv n,bv m,x] 24 none false):=by rw [hHX];simp
  have gc:HX[H.length+1]? = some (.cells [nv 0,nv 0,.slice none 0 0] 29 none false):=by rw [hHX];simp
  have hsp:H++[.cells [bv k,bv n,bv m,x] 24 none false,.cells [nv 0,nv 0,.slice none 0 0] 29 none false,.cells [nv 2,nv 3,nv 4,nv 5,nv 7,nv 8] 3 none false,.cells [nv 8,nv 5,nv 4,nv 3,nv 2,nv 2] 3 none false,.cells [] 31 none false]=HX++[.cells [] 31 none false]:=by rw [hHX];simp
  have hsl:H.length+4=HX.length:=hXl.symm
  rw [←hHX] at hX0
  rw [hsp]
  refine loopV2.nat kk (fun i out i' H'=>i'=nv i∧Pre HX H'∧∃ xss:List (List α),xss.length=i∧(∀ x∈xss,x.length=N)∧AccR HX H' out (evr cd xss) 31) ⟨rfl,Pre.new _ _,[],rfl,by simp,?_⟩ ?_ ?_
  · have:=AccR.new (H0:=HX) (H:=HX) (Nat.le_refl _) (e:=31) (Y:=[])
    rw [hXl] at this
    exact this
  · rintro i out i' H6 hi ⟨rfl,hp6,xss,hxl,hxw,ho⟩ J hJ
    simp (disch:=omega) only [zA,zB,zC,zD,zF,zG,zH,↓reduceIte,hi]
    refine FZ.use (qkj (by omega)) ?_
    have h7:=Pre.new H6 [.cells ((List.replicate N 0).map nv) 3 none false]
    have hiN:i*N≤80:=Nat.mul_le_mul (show i≤8 by omega) hN10
    refine loopV1.nat N (fun jj j' H'=>j'=nv jj∧Pre H6 H'∧∃ xs:List α,xs.length=N∧H'[H6.length]? = some (.cells (evs cd xs) 3 none false)) ⟨rfl,h7,List.replicate N Fl.zero,by simp,?_⟩ ?_ ?_
    · rw [qf4 (Q.ok 0)];simp
    · rintro jj j' H8 hjj ⟨rfl,hp8,xs,hxs,hb8⟩ J2 hJ2
      have hpp:=hp6.trans hp8
      have gx8:=hpp.get gx
      have hv8:=hx.pre (hX0.trans hpp)
      have vl:=hv8.len
      rw [List.length_map] at vl
      simp (disch:=omega) only [zA,zB,zC,zD,zF,zG,zH,↓reduceIte,hjj]
      refine joinV0.via (fun H'=>Pre H6 H'∧∃ xs:List α,xs.length=N∧H'[H6.length]? = some (.cells (evs cd xs) 3 none false)) ?_ ?_
      · intro J3 hJ3
        by_cases h0:us.length=0
        · have h0':¬0<us.length:=by omega
          simp (disch:=omega) only [zA,zB,zC,zD,zF,zG,zH,↓reduceIte,gx8,vl,h0']
          exact hJ3 _ ⟨hp8,xs,hxs,hb8⟩
        · have hpos:0<us.length:=by omega
          obtain⟨t,ht⟩:∃ t,t=(i*N+jj) % us.length:=⟨_,rfl⟩
          have htl:t<us.length:=by rw [ht];exact Nat.mod_lt _ hpos
          have vi:=hv8.ix (k:=t) (by rw [List.length_map];exact htl)
          have ld:=bv_ld hv8 htl
          have hu:=getD_lt hus htl
          have cv:qbc (.conv .i64) [bv (us.getD t 0)]=some (nv (us.getD t 0)):=qcx (by omega)
          obtain⟨y,hy⟩:=(Q.ok 0).sur (us.getD t 0 % q) (Nat.mod_lt _ (by omega))
          have hq0:0<q:=by omega
          have st:=qfc (c:=evs cd xs) (e:=3) (op:=none) (H:=H8) (bl:=H6.length) (o:=jj) (v:=nv (us.getD t 0 % q)) rfl rfl (by rw [List.length_map];omega)
          rw [ht] at vi ld cv st
          simp (disch:=omega) only [zA,zB,zC,zD,zF,zG,zH,↓reduceIte,gx8,vl,hpos,vi,ld,cv,hq0,hjj,hb8,st]
          refine hJ3 _ ⟨hp8.set (Nat.le_refl _) _,xs.set jj y,by rw [List.length_set];exact hxs,?_⟩
          have e1:evs cd (xs.set jj y)=(evs cd xs).set jj (nv (us.getD t 0 % q)):=by rw [←hy];simp [evs,List.map_set]
          rw [e1,ht]
          exact List.getElem?_set_self (qbx hb8)
      · rintro H10 ⟨hp10,xs2,hxs2,hb10⟩
        simp (disch:=omega) only [zA,zB,zC,zD,zF,zG,zH,↓reduceIte]
        exact hJ2 _ _ ⟨rfl,hp10,xs2,hxs2,hb10⟩
    · rintro j' H8 ⟨rfl,hp8,xs,hxs,hb8⟩ J2
      simp (disch:=omega) only [zA,zB,zC,zD,zF,zG,zH,↓reduceIte]
      refine joinV0.via (fun H'=>Pre H6 H'∧∃ xs:List α,xs.length=N∧H'[H6.length]? = some (.cells (evs cd xs) 3 none false)) ?_ ?_
      · intro J3 hJ3
        by_cases hiN2:i<N
        · have st:=qfc (c:=evs cd xs) (e:=3) (op:=none) (H:=H8) (bl:=H6.length) (o:=i) (v:=nv 1) rfl rfl (by rw [List.length_map];omega)
          simp (disch:=omega) only [zA,zB,zC,zD,zF,zG,zH,↓reduceIte,hiN2,hb8,st]
          refine hJ3 _ ⟨hp8.set (Nat.le_refl _) _,xs.set i Fl.one,by rw [List.length_set];exact hxs,?_⟩
          have e1:evs cd (xs.set i Fl.one)=(evs cd xs).set i (nv 1):=by rw [←(Q.ok 0).one];simp [evs,List.map_set]
          rw [e1]
          exact List.getElem?_set_self (qbx hb8)
        · simp (disch:=omega) only [zA,zB,zC,zD,zF,zG,zH,↓reduceIte,hiN2]
          exact hJ3 _ ⟨hp8,xs,hxs,hb8⟩
      · rintro H10 ⟨hp10,xs2,hxs2,hb10⟩
        have hpp:=hp6.trans hp10
        have hr:Row H10 (.slice (some ⟨H6.length,0,none⟩) N N) (evs cd xs2):=Row.of hb10 (by rw [List.length_map,hxs2]) (Nat.le_refl _)
        obtain⟨out',H12,e1,ho',hp',_⟩:=(ho.pre hp10).app1 (by_:=24) hpp.len hr (qb3 _) (by simp;omega) (by simp;omega) (e2:=31)
        simp (disch:=(first|omega|(simp only [qbj]<;>omega)|(simp only [qbg];done)|rfl)) only [zA,zB,zC,zD,zF,zG,zH,Nat.reduceEqDiff,Nat.reduceLT,Nat.reduceLeDiff,↓reduceIte,e1]
        refine hJ _ _ _ ⟨rfl,hp' hpp,xss++[xs2],by simp [hxl],fun x hx=>?_,by simpa using ho'⟩
        rcases List.mem_append.1 hx with h|h
        · exact hxw x h
        · rw [List.mem_singleton.1 h];exact hxs2
  · rintro out i' H6 ⟨rfl,hp6,xss,hxl,hxw,ho⟩ J
    simp (disch:=omega) only [zA,zB,zC,zD,zF,zG,zH,↓reduceIte]
    refine FZ.mono (over_c Q) ?_
    rintro _ H15 ⟨hp15,b,rfl,hb⟩
    have hR:=ho.rowR.pre hp15
    refine FZ.mono (qk4 (Q.ok b) hb hR hxw (by omega) (by omega) hN1) ?_
    rintro w H16 ⟨hp16,hw⟩
    have hpp:=hp6.trans (hp15.trans hp16)
    have gc16:=hpp.get gc
    have s9:=qbs (H:=H16) (bl:=H.length+1) (x:=nv q) (y:=nv N) (z:=w) (c0:=nv 0) (c1:=nv 0) (c2:=.slice none 0 0) (e:=29) (op:=none) rfl rfl hw.one
    have g9:(H16.set (H.length+1) (AB.cells [nv q,nv N,w] 29 none false))[H.length+1]? = some (.cells [nv q,nv N,w] 29 none false):=List.getElem?_set_self (qbx gc16)
    have hf:=hw.fill
    simp (disch:=(first|omega|(simp only [qbj]<;>omega)|(simp only [qbg];done)|rfl)) only [zA,zB,zC,zD,zF,zG,zH,Nat.reduceEqDiff,Nat.reduceLT,Nat.reduceLeDiff,↓reduceIte,hf,gc16,s9,g9]
    obtain⟨d1,_,d3⟩:=qbz hxw
    have hl15:=(hp6.trans hp15).len
    exact⟨(hX0.trans hpp).set (by omega) _,w,qbk xss,rfl,d1,by omega,(hw.setLow (by omega)).mono (by omega)⟩
end
end Go.Sim
