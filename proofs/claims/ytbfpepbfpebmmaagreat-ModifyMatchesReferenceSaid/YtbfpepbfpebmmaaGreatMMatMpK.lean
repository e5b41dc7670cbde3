/- Part of the proof: MpK. -/
import Derived.Test.YtbfpepbfpebmmaaGreatMMatMpHToMpI
set_option linter.all false
namespace Go.Sim
open Go Go.Proofs
theorem qb9 {H:AH} {er:Nat}:FN Tryz.prog 110 [nv er] H (fun r H'=>r=.tuple [codv 0 0 (.slice none 0 0),nv er].toArray∧Pre H H'):=by
  refine g110_of ?_
  unfold g110
  have f0:qbr [nv 0,nv 0,.slice none 0 0] [] []=some [nv 0,nv 0,.slice none 0 0]:=rfl
  have s1:=qbs (H:=H++[.cells [nv 0,nv 0,.slice none 0 0] 29 none false]) (bl:=H.length) (x:=nv 0) (y:=nv 0) (z:=.slice none 0 0) (c0:=nv 0) (c1:=nv 0) (c2:=.slice none 0 0) (e:=29) (op:=none) rfl rfl rfl
  rw [qb2] at s1
  simp (disch:=omega) only [zA,zB,zC,zD,zF,zG,zH,↓reduceIte,f0,s1]
  exact Pre.new _ _
theorem summed_e {H:AH} {q q2 n m:Nat} {v w:Value} (hv:one v=true) (hw:one w=true) (hq:¬q=q2) :
    FN Tryz.prog 22 [codv q n v,codv q2 m w] H (fun r H'=>r=gotv 0 0 (.slice none 0 0) 1∧Pre H H'):=by
  refine g22_of ?_
  unfold g22
  simp (disch:=omega) only [zA,zB,zC,zD,zF,zG,zH,↓reduceIte,hv,hw]
  have hX:=Pre.new H [.cells [nv q,nv n,v] 29 none false,.cells [nv q2,nv m,w] 29 none false,.cells [nv 0,nv 0,.slice none 0 0,nv 0] 37 none false]
  have key:FN Tryz.prog 71 [codv q n v,codv q2 m w] (H++[.cells [nv q,nv n,v] 29 none false,.cells [nv q2,nv m,w] 29 none false,.cells [nv 0,nv 0,.slice none 0 0,nv 0] 37 none false]) (fun r H'=>r=.tuple [codv 0 0 (.slice none 0 0),nv 1].toArray∧Pre (H++[.cells [nv q,nv n,v] 29 none false,.cells [nv q2,nv m,w] 29 none false,.cells [nv 0,nv 0,.slice none 0 0,nv 0] 37 none false]) H'):=by
    obtain⟨HX,hHX⟩:∃ HX,HX=H++[.cells [nv q,nv n,v] 29 none false,.cells [nv q2,nv m,w] 29 none false,.cells [nv 0,nv 0,.slice none 0 0,nv 0] 37 none false]:=⟨_,rfl⟩
    rw [←hHX]
    refine g71_of ?_
    unfold g71
    simp (disch:=omega) only [zA,zB,zC,zD,zF,zG,zH,↓reduceIte,hv,hw,hq]
    have hp:=Pre.new HX [.cells [nv q,nv n,v] 29 none false,.cells [nv q2,nv m,w] 29 none false,.cells [nv 0,nv 0,.slice none 0 0] 29 none false]
    refine FZ.mono qb9 ?_
    rintro _ H4 ⟨rfl,hp4⟩
    have g4:H4[HX.length+2]? = some (.cells [nv 0,nv 0,.slice none 0 0] 29 none false):=hp4.get (by simp)
    have s5:=qbs (H:=H4) (bl:=HX.length+2) (x:=nv 0) (y:=nv 0) (z:=.slice none 0 0) (c0:=nv 0) (c1:=nv 0) (c2:=.slice none 0 0) (e:=29) (op:=none) rfl rfl rfl
    have g5:(H4.set (HX.length+2) (.cells [nv 0,nv 0,.slice none 0 0] 29 none false))[HX.length+2]? = some (.cells [nv 0,nv 0,.slice none 0 0] 29 none false):=List.getElem?_set_self (qbx g4)
    simp (disch:=omega) only [zA,zB,zC,zD,zF,zG,zH,↓reduceIte,g4,s5,g5]
    exact (hp.trans hp4).set (by omega) _
  refine FZ.mono key ?_
  rintro _ H3 ⟨rfl,hp3⟩
  have s4:=qbs (H:=H3++[.cells [nv 0,nv 0,.slice none 0 0] 29 none false]) (bl:=H3.length) (x:=nv 0) (y:=nv 0) (z:=.slice none 0 0) (c0:=nv 0) (c1:=nv 0) (c2:=.slice none 0 0) (e:=29) (op:=none) rfl rfl rfl
  rw [qb2] at s4
  have hb3:H3[H.length+2]? = some (.cells [nv 0,nv 0,.slice none 0 0,nv 0] 37 none false):=hp3.get (by simp)
  have hb4:=qdr hb3 [.cells [nv 0,nv 0,.slice none 0 0] 29 none false]
  have s6:=qcj (H:=H3++[.cells [nv 0,nv 0,.slice none 0 0] 29 none false]) (bl:=H.length+2) (x:=nv 0) (y:=nv 0) (z:=.slice none 0 0) (u:=nv 1) (c0:=nv 0) (c1:=nv 0) (c2:=.slice none 0 0) (c3:=nv 0) (e:=37) (op:=none) rfl rfl rfl rfl
  have g6:((H3++[AB.cells [nv 0,nv 0,.slice none 0 0] 29 none false]).set (H.length+2) (AB.cells [nv 0,nv 0,.slice none 0 0,nv 1] 37 none false))[H.length+2]? = some (.cells [nv 0,nv 0,.slice none 0 0,nv 1] 37 none false):=List.getElem?_set_self (qbx hb4)
  have f4:=qb7 (q:=0) (n:=0) (er:=1) (w:=.slice none 0 0) rfl
  simp (disch:=omega) only [zA,zB,zC,zD,zF,zG,zH,↓reduceIte,s4,hb4,f4,s6,g6]
  exact ((hX.trans hp3).app _).set (by omega) _
theorem doubled_e {H:AH} {q q2 n m:Nat} {v w:Value} (hv:one v=true) (hw:one w=true) (hq:¬(q=q2∧n=m)) :
    FN Tryz.prog 24 [codv q n v,codv q2 m w] H (fun r H'=>r=gotv 0 0 (.slice none 0 0) 1∧Pre H H'):=by
  refine g24_of ?_
  unfold g24
  simp (disch:=omega) only [zA,zB,zC,zD,zF,zG,zH,↓reduceIte,hv,hw]
  have hX:=Pre.new H [.cells [nv q,nv n,v] 29 none false,.cells [nv q2,nv m,w] 29 none false,.cells [nv 0,nv 0,.slice none 0 0,nv 0] 37 none false]
  have key:FN Tryz.prog 72 [codv q n v,codv q2 m w] (H++[.cells [nv q,nv n,v] 29 none false,.cells [nv q2,nv m,w] 29 none false,.cells [nv 0,nv 0,.slice none 0 0,nv 0] 37 none false]) (fun r H'=>r=.tuple [codv 0 0 (.slice none 0 0),nv 1].toArray∧Pre (H++[.cells [nv q,nv n,v] 29 none false,.cells [nv q2,nv m,w] 29 none false,.cells [nv 0,nv 0,.slice none 0 0,nv 0] 37 none false]) H'):=by
    obtain⟨HX,hHX⟩:∃ HX,HX=H++[.cells [nv q,nv n,v] 29 none false,.cells [nv q2,nv m,w] 29 none false,.cells [nv 0,nv 0,.slice none 0 0,nv 0] 37 none false]:=⟨_,rfl⟩
    rw [←hHX]
    refine g72_of ?_
    unfold g72
    have hp:=Pre.new HX [.cells [nv q,nv n,v] 29 none false,.cells [nv q2,nv m,w] 29 none false,.cells [nv 0,nv 0,.slice none 0 0] 29 none false]
    by_cases hqq:q=q2
    case' pos =>
      have hnm:¬n=m:=fun h=>hq ⟨hqq,h⟩
      simp (disch:=omega) only [zA,zB,zC,zD,zF,zG,zH,↓reduceIte,hv,hw,hqq,hnm]
    case' neg =>
      simp (disch:=omega) only [zA,zB,zC,zD,zF,zG,zH,↓reduceIte,hv,hw,hqq]
    all_goals
      refine FZ.mono qb9 ?_
      rintro _ H4 ⟨rfl,hp4⟩
      have g4:H4[HX.length+2]? = some (.cells [nv 0,nv 0,.slice none 0 0] 29 none false):=hp4.get (by simp)
      have s5:=qbs (H:=H4) (bl:=HX.length+2) (x:=nv 0) (y:=nv 0) (z:=.slice none 0 0) (c0:=nv 0) (c1:=nv 0) (c2:=.slice none 0 0) (e:=29) (op:=none) rfl rfl rfl
      have g5:(H4.set (HX.length+2) (.cells [nv 0,nv 0,.slice none 0 0] 29 none false))[HX.length+2]? = some (.cells [nv 0,nv 0,.slice none 0 0] 29 none false):=List.getElem?_set_self (qbx g4)
      simp (disch:=omega) only [zA,zB,zC,zD,zF,zG,zH,↓reduceIte,g4,s5,g5]
      first|exact (hp.trans hp4).set (by omega) _|exact ((Pre.new HX _).trans hp4).set (by omega) _
  refine FZ.mono key ?_
  rintro _ H3 ⟨rfl,hp3⟩
  have s4:=qbs (H:=H3++[.cells [nv 0,nv 0,.slice none 0 0] 29 none false]) (bl:=H3.length) (x:=nv 0) (y:=nv 0) (z:=.slice none 0 0) (c0:=nv 0) (c1:=nv 0) (c2:=.slice none 0 0) (e:=29) (op:=none) rfl rfl rfl
  rw [qb2] at s4
  have hb3:H3[H.length+2]? = some (.cells [nv 0,nv 0,.slice none 0 0,nv 0] 37 none false):=hp3.get (by simp)
  have hb4:=qdr hb3 [.cells [nv 0,nv 0,.slice none 0 0] 29 none false]
  have s6:=qcj (H:=H3++[.cells [nv 0,nv 0,.slice none 0 0] 29 none false]) (bl:=H.length+2) (x:=nv 0) (y:=nv 0) (z:=.slice none 0 0) (u:=nv 1) (c0:=nv 0) (c1:=nv 0) (c2:=.slice none 0 0) (c3:=nv 0) (e:=37) (op:=none) rfl rfl rfl rfl
  have g6:((H3++[AB.cells [nv 0,nv 0,.slice none 0 0] 29 none false]).set (H.length+2) (AB.cells [nv 0,nv 0,.slice none 0 0,nv 1] 37 none false))[H.length+2]? = some (.cells [nv 0,nv 0,.slice none 0 0,nv 1] 37 none false):=List.getElem?_set_self (qbx hb4)
  have f4:=qb7 (q:=0) (n:=0) (er:=1) (w:=.slice none 0 0) rfl
  simp (disch:=omega) only [zA,zB,zC,zD,zF,zG,zH,↓reduceIte,s4,hb4,f4,s6,g6]
  exact ((hX.trans hp3).app _).set (by omega) _
end Go.Sim
