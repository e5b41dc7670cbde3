/- Part of the proof: MtA. -/
import Derived.Test.YtbfpepbfpebmmaaGreatMMatMpHToMpI
import Derived.Test.YtbfpepbfpebmmaaGreatMMatMpK
set_option linter.all false
namespace Go.Sim
open Go Go.Proofs
theorem Row.cutL {H:AH} {v:Value} {cs:List Value} (h:Row H v cs) (h0:cs≠[]) {i:Nat} (hi:i≤cs.length):∃ v',qbc (.slS 1 false true) [v,nv i]=some v'∧RowX H v' (cs.take i):=by
  have hl:0<cs.length:=List.length_pos_iff.2 h0
  by_cases hz:i=0
  · subst hz
    rcases h with ⟨rfl,_⟩|⟨b,o,c,cc,e,op,r,rfl,hb,hr,hcap⟩
    · exact absurd rfl h0
    · have h1:=hr 0 hl
      rw [List.getElem?_eq_getElem hl] at h1
      have h2:o<cc.length:=by have:=(List.getElem?_eq_some_iff.1 h1).1;omega
      refine⟨.slice (some ⟨b,o,none⟩) 0 c,by simp [qbc,bnds],?_⟩
      refine⟨by rw [List.take_zero];exact Row.nil,?_⟩
      show erow H _ (0*1)=_
      simp [erow,hb];omega
  · obtain⟨v',h1,h2⟩:=h.upto hi hl
    exact⟨v',h1,h2.x fun h=>by have:=congrArg List.length h;rw [List.length_take,List.length_nil] at this;omega⟩
theorem Row.cutR {H:AH} {v:Value} {cs:List Value} (h:Row H v cs) (h0:cs≠[]) {i:Nat} (hi:i≤cs.length):∃ v',qbc (.slS 1 true false) [v,nv i]=some v'∧RowX H v' (cs.drop i):=by
  have hl:0<cs.length:=List.length_pos_iff.2 h0
  by_cases hz:i=cs.length
  · rcases h with ⟨rfl,_⟩|⟨b,o,c,cc,e,op,r,rfl,hb,hr,hcap⟩
    · exact absurd rfl h0
    · have h1:=hr (cs.length-1) (by omega)
      rw [List.getElem?_eq_getElem (by omega:cs.length-1<cs.length)] at h1
      have h2:o+cs.length≤cc.length:=by have:=(List.getElem?_eq_some_iff.1 h1).1;omega
      have hd:cs.drop i=[]:=by rw [hz];exact List.drop_length ..
      rw [hd,hz]
      by_cases hc:cs.length<c
      · refine⟨.slice (some ⟨b,o+cs.length,none⟩) 0 (c-cs.length),?_,Row.nil,?_⟩
        · simp only [qbc,bnds,Option.getD_some,Option.getD_none]
          rw [if_pos ⟨trivial,by omega,by omega,by omega⟩,if_neg (by omega),if_pos (by omega)]
          simp
        · show erow H _ (0*1)=_
          simp [erow,hb];omega
      · refine⟨.slice (some ⟨b,o,some 0⟩) 0 0,?_,Row.nil,?_⟩
        · simp only [qbc,bnds,Option.getD_some,Option.getD_none]
          rw [if_pos ⟨trivial,by omega,by omega,by omega⟩,if_neg (by omega),if_neg (by omega)]
        · show erow H _ (0*1)=_
          simp [erow]
  · obtain⟨v',h1,h2⟩:=h.from (lo:=i) (by omega)
    exact⟨v',h1,h2.x fun h=>by have:=congrArg List.length h;rw [List.length_drop,List.length_nil] at this;omega⟩
section
variable {α:Type} [Fl α] [DecidableEq α] {cd:α→Nat} {p e b c q:Nat} {blk:AB} {H:AH}
theorem total_c (F:FOK α cd p e b c q blk) {v:Value} {n:Nat} {xs:List α} (hb:H[b]? = some blk) (hv:Row H v (evs cd xs)) (hl:xs.length=n) (hn:n≤1000) :
    FN Tryz.prog 116 [fldv p e b e c,v] H (fun r H'=>r=nv (cd (vsum n (toV xs)))∧Pre H H'):=by
  refine g116_of ?_
  unfold g116
  obtain⟨vl,_,_,_⟩:=hv.all Fl.zero
  have hp1:=Pre.new H [fbx p e b c]
  simp (disch:=omega) only [zA,zB,zC,zD,zF,zG,zH,↓reduceIte,vl]
  refine loopV2.nat n (fun k s i H'=>i=nv k∧H'=H++[fbx p e b c]∧s=nv (cd (vsum k (toV xs)))) ⟨rfl,rfl,?_⟩ ?_ ?_
  · rw [show vsum 0 (toV xs)=(Fl.zero:α) from rfl,F.zero]
  · rintro k s i _ hk ⟨rfl,rfl,rfl⟩ J hJ
    have hk':k<xs.length:=by omega
    obtain⟨wl,wi,wd,_⟩:=(hv.pre hp1).all Fl.zero
    simp (disch:=omega) only [zA,zB,zC,zD,zF,zG,zH,↓reduceIte,wl,wi,wd,hk']
    refine FZ.use (F.radd _ _ _ (hp1.get hb)) ?_
    simp (disch:=omega) only [zA,zB,zC,zD,zF,zG,zH,↓reduceIte]
    exact hJ _ _ _ ⟨rfl,rfl,rfl⟩
  · rintro s i _ ⟨rfl,rfl,rfl⟩ J
    obtain⟨wl,_,_,_⟩:=(hv.pre hp1).all Fl.zero
    simp (disch:=omega) only [zA,zB,zC,zD,zF,zG,zH,↓reduceIte,wl,hl]
    exact hp1
theorem longer_c (F:FOK α cd p e b c q blk) {v:Value} {n:Nat} {xs:List α} (hb:H[b]? = some blk) (hv:Row H v (evs cd xs)) (hl:xs.length=n) (hn:n≤1000) (hn0:0<n) :
    FN Tryz.prog 66 [fldv p e b e c,v] H (fun r H'=>Pre H H'∧Row H' r (evs cd (lext n xs))):=by
  refine g66_of ?_
  unfold g66
  have hp1:=Pre.new H [fbx p e b c,.cells [] 3 none false]
  have hcl:(evs cd xs).length=n:=by rw [List.length_map,hl]
  obtain⟨w1,H3,e1,ha,hp3,_⟩:=Acc.appR (H0:=H++[fbx p e b c]) (H:=H++[fbx p e b c,.cells [] 3 none false]) (by_:=8) (by simp) (Acc.start1 (cs:=[]) (n:=0) rfl (Y:=[])) (qht (hv.pre hp1) hl hn0) (by simp [one]) (by rw [hcl];simp;omega) (by rw [hcl];simp;omega)
  rw [List.nil_append] at ha
  have hp3':Pre (H++[fbx p e b c]) H3:=hp3 (by rw [show H++[fbx p e b c,.cells [] 3 none false]=(H++[fbx p e b c])++[.cells [] 3 none false] by simp];exact Pre.new _ _)
  have gf3:H3[H.length]? = some (fbx p e b c):=hp3'.get (by simp)
  have hp03:=(Pre.new H [fbx p e b c]).trans hp3'
  simp only [fbx] at e1 gf3
  simp (disch:=omega) only [zA,zB,zC,zD,zF,zG,zH,↓reduceIte,e1,gf3]
  refine FZ.mono (total_c F (hp03.get hb) (hv.pre hp03) hl hn) ?_
  rintro _ H4 ⟨rfl,hp4⟩
  have gf4:=hp4.get gf3
  simp (disch:=omega) only [zA,zB,zC,zD,zF,zG,zH,Nat.reduceEqDiff,Nat.reduceLT,Nat.reduceLeDiff,↓reduceIte,gf4]
  refine FZ.use (F.rneg _ _ ((hp03.trans hp4).get hb)) ?_
  obtain⟨out',H7,e2,ho',hp7,_⟩:=(ha.pre hp4).app1 (by_:=8) (hp3'.trans hp4).len (u:=nv (cd (Fl.neg (vsum n (toV xs))))) rfl (by rw [hcl];omega) (by rw [hcl];omega) (e2:=3)
  simp (disch:=(first|omega|(simp only [qbj]<;>omega)|(simp only [qbg];done)|rfl)) only [zA,zB,zC,zD,zF,zG,zH,Nat.reduceEqDiff,Nat.reduceLT,Nat.reduceLeDiff,↓reduceIte,e2]
  refine⟨(Pre.new H [fbx p e b c]).trans (hp7 (hp3'.trans hp4)),?_⟩
  have:=ho'.row
  simpa [lext] using this
theorem without9_c {v:Value} {n i:Nat} {xs:List α} (hv:Row H v (evs cd xs)) (hl:xs.length=n) (hn:n≤1000) (hi:i<n) (hn2:2≤n) :
    FN Tryz.prog 69 [v,nv i] H (fun r H'=>Pre H H'∧Row H' r (evs cd (pick (n-1) (qc0 i) xs))):=by
  refine g69_of ?_
  unfold g69
  have hcl:(evs cd xs).length=n:=by rw [List.length_map,hl]
  have hp1:=Pre.new H [.cells [] 3 none false]
  have hv1:=hv.pre hp1
  have hne:evs cd xs≠[]:=fun h=>by rw [h] at hcl;simp at hcl;omega
  obtain⟨v1,q1,hx1⟩:=hv1.cutL hne (i:=i) (by omega)
  have hcl1:((evs cd xs).take i).length=i:=by rw [List.length_take];omega
  obtain⟨w1,H2,e1,ha,hp2,_⟩:=Acc.appR (H0:=H) (H:=H++[.cells [] 3 none false]) (by_:=8) (by simp) (Own.new (n:=0) (Nat.le_refl _) (cs:=[]) rfl (Y:=[])).acc hx1 (by rw [List.all_eq_true];intro y hy;exact List.all_eq_true.1 (qh2 xs) y (List.mem_of_mem_take hy)) (by rw [hcl1];simp;omega) (by rw [hcl1];simp;omega)
  rw [List.nil_append] at ha
  have hp2':=hp2 hp1
  obtain⟨v2,q2,hx2⟩:=(hv.pre hp2').cutR hne (i:=i+1) (by omega)
  have hcl2:((evs cd xs).drop (i+1)).length=n-(i+1):=by rw [List.length_drop];omega
  obtain⟨w2,H3,e2,ha3,hp3,_⟩:=Acc.appR (H0:=H) (by_:=8) hp2'.len ha hx2 (by rw [List.all_eq_true];intro y hy;exact List.all_eq_true.1 (qh2 xs) y (List.mem_of_mem_drop hy)) (by rw [hcl1,hcl2];omega) (by rw [hcl1,hcl2];omega)
  have hi1:xbin .add 0 (nv i) (nv 1)=some (nv (i+1)):=qkt (by omega)
  simp (disch:=omega) only [zA,zB,zC,zD,zF,zG,zH,↓reduceIte,q1,e1,q2,e2]
  refine⟨hp3 hp2',?_⟩
  rw [←skip_list hl hi]
  have:=ha3.row
  rw [List.eraseIdx_eq_take_drop_succ]
  simpa using this
theorem moved_c {w gv:Value} {n:Nat} {g:List Nat} {xs:List α} (hz:cd Fl.zero=0) (hgv:Row H gv (g.map nv)) (hg:Pm n g) (hw:Row H w (evs cd xs)) (hl:xs.length=n) (hn:n≤1000) :
    FN Tryz.prog 78 [w,gv] H (fun r H'=>Pre H H'∧Row H' r (evs cd (qm7 n g xs))):=by
  refine g78_of ?_
  unfold g78
  have hgl:=hg.len
  have hmk:8*n≤281474976710656:=by omega
  obtain⟨vl,_,_,_⟩:=hw.all Fl.zero
  rw [hl] at vl
  simp (disch:=omega) only [zA,zB,zC,zD,zF,zG,zH,↓reduceIte,hmk,qc8,vl]
  refine loopV1.nat n (fun k i H'=>i=nv k∧Pre H H'∧H'[H.length]? = some (.cells (tab n fun j=>nv (if g.idxOf j<k then cd (xs.getD (g.idxOf j) Fl.zero) else 0)) 3 none false)) ⟨rfl,Pre.new _ _,?_⟩ ?_ ?_
  · rw [qhn];simp
  · rintro k i H2 hk ⟨rfl,hp,hb⟩ J hJ
    have hk':k<g.length:=by omega
    have hkx:k<xs.length:=by omega
    obtain⟨wl,wi,wd,_⟩:=(hw.pre hp).all Fl.zero
    rw [hl] at wl
    obtain⟨_,gi,gd,_⟩:=(hgv.pre hp).all 0
    have hlt:=hg.lt hk
    have st:=qnq (k:=g.getD k 0) (v:=nv (cd (xs.getD k Fl.zero))) (g:=fun j=>nv (if g.idxOf j<k+1 then cd (xs.getD (g.idxOf j) Fl.zero) else 0)) hb hlt rfl rfl (by rw [qnd hg hk,if_pos (by omega)]) (fun j hj hne=>by
      congr 1
      have h1:=idx_lt hg hk j hj
      by_cases h2:g.idxOf j<k
      · rw [if_pos h2,if_pos (by omega)]
      · rw [if_neg h2,if_neg (fun h3=>(h1.1 h3).elim h2 hne)])
    simp (disch:=omega) only [zA,zB,zC,zD,zF,zG,zH,↓reduceIte,hk,wl,wi,wd,hkx,gi,gd,hk',hlt,hb,st]
    exact hJ _ _ ⟨rfl,hp.set (Nat.le_refl _) _,List.getElem?_set_self (qbx hb)⟩
  · rintro i H2 ⟨rfl,hp,hb⟩ J
    obtain⟨wl,_,_,_⟩:=(hw.pre hp).all Fl.zero
    rw [hl] at wl
    simp (disch:=omega) only [zA,zB,zC,zD,zF,zG,zH,↓reduceIte,wl]
    refine⟨hp,?_⟩
    have e1:evs cd (qm7 n g xs)=tab n fun j=>nv (if g.idxOf j<n then cd (xs.getD (g.idxOf j) Fl.zero) else 0):=by
      unfold qm7 pick tab evs
      rw [List.map_map]
      refine List.map_congr_left fun j hj=>?_
      rw [if_pos (get_idx hg (List.mem_range.1 hj)).1];rfl
    rw [e1]
    exact Row.of hb (by rw [tab_len]) (Nat.le_refl _)
end
end Go.Sim
