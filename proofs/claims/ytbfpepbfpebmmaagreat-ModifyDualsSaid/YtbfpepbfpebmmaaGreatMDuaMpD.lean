/- Part of the proof: MpD. -/
import Derived.Test.YtbfpepbfpebmmaaGreatMDuaMoYToMpC
import Derived.Test.YtbfpepbfpebmmaaGreatMDuaMoJToMoN
set_option linter.all false
namespace Go.Sim
open Go Go.Proofs
section
variable {α:Type} [Fl α] [DecidableEq α] {cd:α→Nat} {p e b c q:Nat} {blk:AB} {H:AH}
theorem lplus_more {xs ys:List α} {a:α}:lplus xs (ys.map (Fl.mul a))=lmore xs a ys:=by
  unfold lplus lmore
  rw [List.zipWith_map_right]
theorem over2_c (Q:FQ α cd p e q blk):FN Tryz.prog 62 [nv q] H (fun r H'=>Pre H H'∧∃ b,r=fldv p e b e e∧H'[b]? = some blk∧H.length≤b):=by
  refine g62_of ?_
  unfold g62
  simp (disch:=omega) only [zA,zB,zC,zD,zF,zG,zH,↓reduceIte]
  refine FZ.use (Q.rmake _) ?_
  have s3:=stB_three (H:=H++[.cells [nv 0,nv 0,.slice none 0 0] 76 none false,blk,.cells [nv 0,nv 0,.slice none 0 0] 76 none false]) (bl:=H.length+2) (x:=nv p) (y:=nv e) (z:=.slice (some ⟨H.length+1,0,none⟩) e e) (c0:=nv 0) (c1:=nv 0) (c2:=.slice none 0 0) (e:=76) (op:=none) rfl rfl rfl
  have e3:(H++[.cells [nv 0,nv 0,.slice none 0 0] 76 none false,blk,.cells [nv 0,nv 0,.slice none 0 0] 76 none false]).set (H.length+2) (.cells [nv p,nv e,.slice (some ⟨H.length+1,0,none⟩) e e] 76 none false)=H++[.cells [nv 0,nv 0,.slice none 0 0] 76 none false,blk,fbx p e (H.length+1) e]:=by
    rw [List.set_append_right _ _ (by omega)];simp
  rw [e3] at s3
  have s4:=stB_three (H:=H++[.cells [nv 0,nv 0,.slice none 0 0] 76 none false,blk,fbx p e (H.length+1) e]) (bl:=H.length) (x:=nv p) (y:=nv e) (z:=.slice (some ⟨H.length+1,0,none⟩) e e) (c0:=nv 0) (c1:=nv 0) (c2:=.slice none 0 0) (e:=76) (op:=none) rfl rfl rfl
  have e4:(H++[.cells [nv 0,nv 0,.slice none 0 0] 76 none false,blk,fbx p e (H.length+1) e]).set H.length (.cells [nv p,nv e,.slice (some ⟨H.length+1,0,none⟩) e e] 76 none false)=H++[fbx p e (H.length+1) e,blk,fbx p e (H.length+1) e]:=by
    rw [List.set_append_right _ _ (by omega)];simp
  rw [e4] at s4
  simp (disch:=omega) only [zA,zB,zC,zD,zF,zG,zH,↓reduceIte,s3,s4]
  exact⟨Pre.new _ _,H.length+1,rfl,by simp,by omega⟩
theorem rof_c (Q:FQ α cd p e q blk) {v mv:Value} {n:Nat} {A:List (List α)} {ms:List α} (hv:RowR H v (evr cd A)) (hm:Row H mv (evs cd ms)) (hA:∀ x∈A,x.length=n) (hlm:ms.length=A.length) (hlA:A.length≤1000) (hn:n≤1000) :
    FN Tryz.prog 143 [codv q n v,mv] H (fun r H'=>Pre H H'∧Row H' r (evs cd (lcomb n A ms))):=by
  refine g143_of ?_
  unfold g143
  have ho:=hv.one'
  simp (disch:=omega) only [zA,zB,zC,zD,zF,zG,zH,↓reduceIte,ho]
  have hX:=Pre.new H [.cells [nv q,nv n,v] 29 none false,.cells [nv 0,nv 0,.slice none 0 0] 76 none false]
  refine FZ.mono (over2_c Q) ?_
  rintro _ H3 ⟨hp3,b,rfl,hb3,hlb0⟩
  have c3:H3[H.length]? = some (.cells [nv q,nv n,v] 29 none false):=hp3.get (by simp)
  have o3:H3[H.length+1]? = some (.cells [nv 0,nv 0,.slice none 0 0] 76 none false):=hp3.get (by simp)
  simp (disch:=omega) only [zA,zB,zC,zD,zF,zG,zH,↓reduceIte,c3]
  refine FZ.use (zero_c hn) ?_
  have hz:(H3++[.cells ((List.replicate n 0).map nv) 3 none false])[H3.length]? = some (.cells ((List.replicate n 0).map nv) 3 none false):=by simp
  have hpz:=Pre.new H3 [.cells ((List.replicate n 0).map nv) 3 none false]
  have o4:=hpz.get o3
  have c4:=hpz.get c3
  have b4:=hpz.get hb3
  have hX4:=hX.trans (hp3.trans hpz)
  have hl4:=(hp3.trans hpz).len
  obtain⟨H4,hH4⟩:∃ H4,H4=H3++[.cells ((List.replicate n 0).map nv) 3 none false]:=⟨_,rfl⟩
  rw [←hH4] at hz o4 c4 b4 hX4 hl4 ⊢
  have s5:=stB_three (H:=H4) (bl:=H.length+1) (x:=nv p) (y:=nv e) (z:=.slice (some ⟨b,0,none⟩) e e) (c0:=nv 0) (c1:=nv 0) (c2:=.slice none 0 0) (e:=76) (op:=none) rfl rfl rfl
  obtain⟨H5,hH5⟩:∃ H5,H5=H4.set (H.length+1) (.cells [nv p,nv e,.slice (some ⟨b,0,none⟩) e e] 76 none false):=⟨_,rfl⟩
  rw [←hH5] at s5
  have k5:∀ x,x≠H.length+1→H5[x]? = H4[x]?:=fun x hx=>by rw [hH5];exact List.getElem?_set_ne (Ne.symm hx)
  have o5:H5[H.length+1]? = some (fbx p e b e):=by rw [hH5];exact List.getElem?_set_self (get_lt o4)
  have c5:=(k5 H.length (by omega)).trans c4
  have hX5:Pre H H5:=fun x hx=>(k5 x (by omega)).trans (hX4 x hx)
  have hlb:=hp3.len
  simp only [List.length_append,List.length_cons,List.length_nil] at hlb
  have z5:=(k5 H3.length (by omega)).trans hz
  have hbne:b≠H.length+1:=by simp at hlb0;omega
  have b5:=(k5 b hbne).trans b4
  simp (disch:=omega) only [zA,zB,zC,zD,zF,zG,zH,↓reduceIte,o4,s5]
  have hrow0:Row H5 (.slice (some ⟨H3.length,0,none⟩) n n) (evs cd (lcombk n A ms 0)):=by
    have:evs cd (lcombk n A ms 0)=(List.replicate n 0).map nv:=(zeros_ev (Q.ok 0) n).symm
    rw [this]
    exact Row.of z5 (by simp) (Nat.le_refl _)
  refine loopV2.nat A.length (fun k w i H'=>i=nv k∧Pre H5 H'∧Row H' w (evs cd (lcombk n A ms k))) ⟨rfl,Pre.refl _,hrow0⟩ ?_ ?_
  · rintro k w i H6 hk ⟨rfl,hp6,hw⟩ J hJ
    have o6:=hp6.get o5
    have c6:=hp6.get c5
    have b6:=hp6.get b5
    have hX6:=hX5.trans hp6
    obtain⟨ml,mi,md,_⟩:=(hm.pre hX6).all Fl.zero
    rw [hlm] at ml
    obtain⟨vs,hvs,hvl,hvr⟩:=(hv.pre hX6).open
    obtain⟨_,vi,vd,_⟩:=hvs.allV
    have hk1:k<vs.length:=by omega
    have hk2:k<ms.length:=by omega
    have hxl:=row_len hA hk
    simp (disch:=omega) only [zA,zB,zC,zD,zF,zG,zH,↓reduceIte,ml,hk,o6,mi,md,hk2,c6,vi,vd,hk1]
    refine FZ.mono (rtimes_c (Q.ok b) b6 (hvr k hk) (by omega)) ?_
    rintro r7 H7 ⟨hp7,ha7⟩
    have o7:=hp7.get o6
    have hcl:=lcombk_length (cs:=ms) hA k (by omega)
    simp (disch:=omega) only [zA,zB,zC,zD,zF,zG,zH,↓reduceIte,o7]
    refine FZ.mono (rplus_c (Q.ok b) (hp7.get b6) (hw.pre hp7) ha7.row (by rw [List.length_map,hcl,hxl]) (by omega)) ?_
    rintro r8 H8 ⟨hp8,ha8⟩
    rw [lplus_more] at ha8
    simp (disch:=omega) only [zA,zB,zC,zD,zF,zG,zH,↓reduceIte]
    exact hJ _ _ _ ⟨rfl,hp6.trans (hp7.trans hp8),ha8.row⟩
  · rintro w i H6 ⟨rfl,hp6,hw⟩ J
    have hX6:=hX5.trans hp6
    obtain⟨ml,_,_,_⟩:=(hm.pre hX6).all Fl.zero
    rw [hlm] at ml
    simp (disch:=omega) only [zA,zB,zC,zD,zF,zG,zH,↓reduceIte,ml]
    exact⟨hX6,hw⟩
theorem comb_cong {c d:Nat→α} {R:Nat→Vc α}:∀ m,(∀ i,i<m→c i=d i)→comb c R m=comb d R m
  | 0,_=>rfl
  | k+1,h=>by rw [comb,comb,comb_cong k fun i hi=>h i (by omega),h k (by omega)]
def lmsg (A:List (List α)) (xs:List α):List α:=A.map fun x=>xs.getD (lpiv x) Fl.zero
theorem lmsg_back {n:Nat} {A:List (List α)} (hA:LRed n A) {xs:List α} (hl:xs.length=n) (hs:LSpan A (toV xs)):lcomb n A (lmsg A xs)=xs:=by
  refine toV_inj (by rw [hl];exact lcombk_length hA.len _ (Nat.le_refl _)) ?_
  unfold lcomb
  rw [toV_lcombk hA.len _ (Nat.le_refl _),hA.red.coord hs]
  refine comb_cong _ fun i hi=>?_
  show (lmsg A xs).getD i Fl.zero=xs.getD (lpiv (A.getD i [])) Fl.zero
  simp [lmsg,List.getD_eq_getElem?_getD,List.getElem?_eq_getElem hi]
theorem rmessage_c (Q:FQ α cd p e q blk) {v wv:Value} {n:Nat} {A:List (List α)} {xs:List α} (hv:RowR H v (evr cd A)) (hw:Row H wv (evs cd xs)) (hA:LRed n A) (hl:xs.length=n) (hs:LSpan A (toV xs)) (hn:n≤1000) :
    FN Tryz.prog 97 [codv q n v,wv] H (fun r H'=>Pre H H'∧∃ m,r=.tuple [m,nv 0].toArray∧Row H' m (evs cd (lmsg A xs))):=by
  refine g97_of ?_
  unfold g97
  have ho:=hv.one'
  have hle:=hA.le
  simp (disch:=omega) only [zA,zB,zC,zD,zF,zG,zH,↓reduceIte,ho]
  have hX:=Pre.new H [.cells [nv q,nv n,v] 29 none false]
  have hwX:=hw.pre hX
  refine FZ.use (rword_c (Q.ok 0) hwX hl hn) ?_
  simp (disch:=omega) only [zA,zB,zC,zD,zF,zG,zH,↓reduceIte]
  have hml:(lmsg A xs).length=A.length:=by simp [lmsg]
  refine loopV2.nat A.length (fun k out i H'=>i=nv k∧Pre (H++[.cells [nv q,nv n,v] 29 none false]) H'∧Acc (H++[.cells [nv q,nv n,v] 29 none false]) H' out (evs cd ((lmsg A xs).take k)) 3) ⟨rfl,Pre.snoc _ _ _,?_⟩ ?_ ?_
  · have:=Own.new (H0:=H++[.cells [nv q,nv n,v] 29 none false]) (H:=H++[.cells [nv q,nv n,v] 29 none false]) (Nat.le_refl _) (cs:=[]) (e:=3) rfl (Y:=[])
    simpa using this.acc
  · rintro k out i H4 hk ⟨rfl,hp4,ho4⟩ J hJ
    have c4:H4[H.length]? = some (.cells [nv q,nv n,v] 29 none false):=hp4.get (by simp)
    obtain⟨vs,hvs,hvl,hvr⟩:=(hv.pre (hX.trans hp4)).open
    obtain⟨vl,vi,vd,_⟩:=hvs.allV
    rw [hvl] at vl
    have hk1:k<vs.length:=by omega
    have hxl:=row_len hA.len hk
    have hpn:lpiv (A.getD k [])<n:=hA.piv.2 _ (getD_mem hk)
    have hpx:lpiv (A.getD k [])<xs.length:=by omega
    obtain⟨_,wi,wd,_⟩:=(hwX.pre hp4).all Fl.zero
    simp (disch:=omega) only [zA,zB,zC,zD,zF,zG,zH,↓reduceIte,c4,vl,hk,vi,vd,hk1]
    refine FZ.use (rpivot_c (Q.ok 0) (hvr k hk) (by omega) (by omega)) ?_
    have hlt:(evs cd ((lmsg A xs).take k)).length≤1000:=by simp;omega
    obtain⟨out',H5,e1,ho',hp',_⟩:=ho4.app1 (by_:=8) hp4.len (u:=nv (cd (xs.getD (lpiv (A.getD k [])) Fl.zero))) rfl (by omega) (by omega) (e2:=3)
    have f1:xfill [nv 0] [(0,1)] [nv (cd (xs.getD (lpiv (A.getD k [])) Fl.zero))]=some [nv (cd (xs.getD (lpiv (A.getD k [])) Fl.zero))]:=rfl
    simp (disch:=omega) only [zA,zB,zC,zD,zF,zG,zH,↓reduceIte,wi,wd,hpx,f1,e1]
    refine hJ _ _ _ ⟨rfl,hp' hp4,?_⟩
    have e:evs cd ((lmsg A xs).take (k+1))=evs cd ((lmsg A xs).take k)++[nv (cd (xs.getD (lpiv (A.getD k [])) Fl.zero))]:=by
      rw [List.take_succ_eq_append_getElem (by omega)]
      simp [lmsg,List.getD_eq_getElem?_getD,List.getElem?_eq_getElem hk]
    rw [e];exact ho'
  · rintro out i H4 ⟨rfl,hp4,ho4⟩ J
    have c4:H4[H.length]? = some (.cells [nv q,nv n,v] 29 none false):=hp4.get (by simp)
    have hv4:=hv.pre (hX.trans hp4)
    obtain⟨vs,hvs,hvl,_⟩:=hv4.open
    obtain⟨vl,_,_,_⟩:=hvs.allV
    rw [hvl] at vl
    rw [List.take_of_length_le (by omega)] at ho4
    simp (disch:=omega) only [zA,zB,zC,zD,zF,zG,zH,↓reduceIte,c4,vl]
    refine FZ.mono (rof_c Q hv4 ho4.row hA.len hml (by omega) hn) ?_
    rintro r8 H8 ⟨hp8,hr8⟩
    rw [lmsg_back hA hl hs] at hr8
    have hw8:=(hwX.pre hp4).pre hp8
    rw [evs_nv] at hr8 hw8
    refine FZ.use (ints_c hr8 hw8 (by rw [List.length_map];omega)) ?_
    simp (disch:=omega) only [zA,zB,zC,zD,zF,zG,zH,↓reduceIte]
    exact⟨hX.trans (hp4.trans hp8),_,rfl,ho4.row.pre hp8⟩
theorem has_c (Q:FQ α cd p e q blk) {v wv:Value} {n:Nat} {A:List (List α)} {xs:List α} (hv:RowR H v (evr cd A)) (hw:Row H wv (evs cd xs)) (hA:LRed n A) (hl:xs.length=n) (hs:LSpan A (toV xs)) (hn:n≤1000) :
    FN Tryz.prog 48 [codv q n v,wv] H (fun r H'=>Pre H H'∧r=.bool true):=by
  refine g48_of ?_
  unfold g48
  have ho:=hv.one'
  simp (disch:=omega) only [zA,zB,zC,zD,zF,zG,zH,↓reduceIte,ho]
  have hX:=Pre.new H [.cells [nv q,nv n,v] 29 none false]
  refine FZ.mono (rmessage_c Q (hv.pre hX) (hw.pre hX) hA hl hs hn) ?_
  rintro _ H2 ⟨hp2,m,rfl,_⟩
  simp (disch:=omega) only [zA,zB,zC,zD,zF,zG,zH,↓reduceIte]
  exact hX.trans hp2
end
end Go.Sim
