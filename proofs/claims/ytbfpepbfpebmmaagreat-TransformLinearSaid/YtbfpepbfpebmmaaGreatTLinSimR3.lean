/- Part of the proof: SimR3. -/
import Derived.Test.YtbfpepbfpebmmaaGreatTLinSimWToSimX2
import Derived.Test.YtbfpepbfpebmmaaGreatTLinSimR2
import Derived.Test.YtbfpepbfpebmmaaGreatTLinSimSTToShC
import Derived.OpenShut
import Derived.Carry
set_option linter.all false
namespace Go.Sim
open Go
structure ArgR (w:World) (H:AH) (i:Inj):Prop where
  rel:Rel i H w
  ro:∀ (b:Nat) (x:AB),H[b]? = some x→x.owned=false
theorem ArgR.nil (w:World):ArgR w [] (fun _=>none):=⟨⟨(fun b=>by simp),(fun b L x h=>by cases h),(fun _ _ _ _ _ _ h=>by cases h)⟩,fun b x h=>by simp at h⟩
theorem qkz {w:World} {b:Nat} {off:Nat} {v:Value} (h:w.cell? ⟨b,off,none⟩=some v):∃ c e fr,w.heap[b]? = some (.cells c e fr)∧c[off]? = some v:=by
  unfold World.cell? at h
  split at h
  · rename_i c e fr hb
    split at h
    · cases h
    · exact⟨c,e,fr,hb,h⟩
  · cases h
theorem ArgR.slice {w:World} {H:AH} {i:Inj} (h:ArgR w H i) {v':Value} {k:IntKind} {b off len cap:Nat} {zs:List Int} (hl:len≤zs.length) (hc:len≤cap) (h0:0<len)
    (hcell:∀ j,j<zs.length→w.cell? ⟨b,off+j,none⟩=some (.int k (zs.getD j 0))) :
    ∃ v Y j,ArgR w (H++Y) j∧i.le j∧VR j v (.slice (some ⟨b,off,none⟩) len cap)∧RowX (H++Y) v ((zs.take len).map (Value.int k)):=by
  let L:Loc:=⟨b,off,1,0⟩
  have hi0:i H.length=none:=by
    cases hx:i H.length with
    | none=>rfl
    | some M=>exact absurd (h.rel.dom _ _ hx) (Nat.lt_irrefl _)
  have hle:i.le (i.upd H.length L):=Inj.le_upd hi0
  obtain⟨c,e,fr,hb,_⟩:=qkz (hcell 0 (by omega))
  let X:AB:=.cells ((zs.take len).map (Value.int k)) 0 none true
  have hX:(H++[X])[H.length]? = some X:=by simp
  have old:∀ b1 L1 x1,(i.upd H.length L) b1=some L1→(H++[X])[b1]? = some x1→(b1=H.length∧L1=L∧x1=X)∨(b1<H.length∧i b1=some L1∧H[b1]? = some x1):=by
    intro b1 L1 x1 h1 h2
    unfold Inj.upd at h1
    by_cases hb1:b1=H.length
    · subst hb1
      rw [if_pos rfl] at h1
      rw [hX] at h2
      exact .inl ⟨rfl,by cases h1;rfl,by cases h2;rfl⟩
    · rw [if_neg hb1] at h1
      have hlt:=h.rel.dom _ _ h1
      rw [List.getElem?_append_left hlt] at h2
      exact .inr ⟨hlt,h1,h2⟩
  refine⟨.slice (some ⟨H.length,0,none⟩) len cap,[X],i.upd H.length L,⟨⟨?_,?_,?_⟩,?_⟩,hle,?_,?_⟩
  · intro b1 L1 h1
    unfold Inj.upd at h1
    by_cases hb1:b1=H.length
    · subst hb1;simp
    · rw [if_neg hb1] at h1;have:=h.rel.dom _ _ h1;simp;omega
  · intro b1 L1 x1 h1 h2
    rcases old b1 L1 x1 h1 h2 with ⟨rfl,rfl,rfl⟩|⟨_,h3,h4⟩
    · refine⟨c,e,fr,hb,fun j v hj=>?_,fun h=>(by cases h),fun _=>rfl,fun s h=>(by cases h)⟩
      have hjl:j<len:=by
        have:=(List.getElem?_eq_some_iff.1 hj).1
        simp at this;omega
      obtain⟨c',e',fr',hb',hv'⟩:=qkz (hcell j (by omega))
      rw [hb] at hb'
      cases hb'
      refine⟨_,hv',?_⟩
      rw [List.getElem?_map,List.getElem?_take_of_lt hjl,List.getElem?_eq_getElem (by omega)] at hj
      simp at hj
      subst hj
      rw [List.getD_eq_getElem?_getD,List.getElem?_eq_getElem (by omega)]
      exact .int _ _
    · exact (h.rel.blk _ _ _ h3 h4).mono hle
  · intro b1 b2 L1 L2 x1 x2 h1 h2 g1 g2 ho
    rcases old b1 L1 x1 h1 g1 with ⟨rfl,rfl,rfl⟩|⟨_,h3,h4⟩
    · simp [X,AB.owned] at ho
    · rw [h.ro _ _ h4] at ho;cases ho
  · intro b1 x1 h1
    by_cases hb1:b1<H.length
    · rw [List.getElem?_append_left hb1] at h1;exact h.ro _ _ h1
    · have:b1=H.length:=by
        have:=(List.getElem?_eq_some_iff.1 h1).1
        simp at this;omega
      subst this
      rw [hX] at h1;cases h1;rfl
  · exact VR.slice (a:=⟨H.length,0,none⟩) (L:=L) (c':=cap) (Inj.upd_same _ _ _) rfl (.inl rfl)
  · have hln:((zs.take len).map (Value.int k)).length=len:=by simp;omega
    have hr:Sim.Row (H++[X]) (.slice (some ⟨H.length,0,none⟩) len cap) ((zs.take len).map (Value.int k)):=Row.of hX hln.symm hc
    exact hr.x (fun e=>by rw [e] at hln;simp at hln;omega)
theorem ArgR.open {P:Program} {Hh:Type} {enc:TypeId×Value→Hh} {base:Nat} {spare:Nat→Bool} {held:Bool} {t e:TypeId} {k:IntKind} {fuel:Nat} {cs:List Value} {x:DataW Hh×List MemPlace} {w:World} {H:AH} {i:Inj} (h:ArgR w H i)
    (ht:P.underlying t=some (.slice e)) (he:P.underlying e=some (.int k)) (hc:P.cellsOf e=1) (hd:DataW.trod enc P w base spare held fuel t cs=some x) :
    ∃ (v' v:Value) (Y:AH) (j:Inj) (ns:List Int),cs=[v']∧ArgR w (H++Y) j∧i.le j∧VR j v v'∧RowX (H++Y) v (ns.map (Value.int k))∧(∀ n∈ns,(Lit.int k n).wf=true)∧((x.1=.nil∧ns=[])∨∃ sp,x.1=.slice (Go.ChangeShapes.lits k ns) sp):=by
  rcases Go.ChangeShapes.open_ints ht he hc hd with ⟨rfl,rfl⟩|⟨a,len,cap,zs,rfl,_,hl,hm,hz,rfl,hcell,hw⟩
  · exact⟨_,.slice none 0 0,[],i,[],rfl,by simpa using h,i.le_refl,.snil 0 0,⟨Row.nil,rfl⟩,by simp,.inl ⟨rfl,rfl⟩⟩
  · have hlz:len≤zs.length:=by rw [hz];split<;>omega
    by_cases h0:len=0
    · subst h0
      exact⟨_,.slice (some ⟨0,0,some 0⟩) 0 0,[],i,[],rfl,by simpa using h,i.le_refl,.vague (s:=0) rfl,⟨Row.nil,rfl⟩,by simp,.inr ⟨_,rfl⟩⟩
    · obtain⟨b,off,rfl,hc'⟩:=Go.ints_at hcell (by omega)
      obtain⟨v,Y,j,q1,q2,q3,q4⟩:=h.slice (v':=.slice none 0 0) (k:=k) hlz hl (by omega) hc'
      exact⟨_,v,Y,j,zs.take len,rfl,q1,q2,q3,q4,fun n hn=>hw n (List.mem_of_mem_take hn),.inr ⟨_,rfl⟩⟩
theorem law_walkH {P:Program} {f:FuncId} {args args':List Value} {H:AH} {i:Inj} {w:World} (ha:ArgR w H i) (hv:VRs i args args') (h:FN P f args H (fun v _=>v=.bool true)):Calls P f args'.toArray w fun e w'=>e=.returned (.bool true)∧RowKit.Below w.heap.size w w':=by
  obtain⟨v,H',r,sim⟩:=h.2
  intro cs
  obtain⟨i',w',v',fr,e,g,hv',p,q1,q2⟩:=sim _ w args' ha.rel hv cs
  subst r
  cases hv'
  exact⟨.returned (.bool true),w',fr,⟨rfl,⟨e.os,e.tape,e.output,e.size,(fun k hk=>e.frame k hk (fun b L x _ h2 h3 _=>by rw [ha.ro b x h2] at h3;cases h3))⟩⟩,p,q1,q2⟩
theorem ArgR.openV {P:Program} {Hh:Type} {enc:TypeId×Value→Hh} {base:Nat} {spare:Nat→Bool} {held:Bool} {t e:TypeId} {k:IntKind} {r:Reach} {b0:Nat} {v':Value} {d:DataW Hh} {ps:List MemPlace} {w:World} {H:AH} {i:Inj} (h:ArgR w H i)
    (ht:P.underlying t=some (.slice e)) (he:P.underlying e=some (.int k)) (hc:P.cellsOf e=1) (hval:Value.okWide P w r b0 t v') (hd:DataW.Trod enc P w base spare held t v' d ps) :
    ∃ (v:Value) (Y:AH) (j:Inj) (ns:List Int),ArgR w (H++Y) j∧i.le j∧VR j v v'∧RowX (H++Y) v (ns.map (Value.int k))∧(∀ n∈ns,(Lit.int k n).wf=true)∧((d=.nil∧ns=[])∨∃ sp,d=.slice (Go.ChangeShapes.lits k ns) sp):=by
  obtain⟨a0,len,cap,rfl⟩:=Go.WideShapes.okWide_slice ht hval
  obtain⟨fuel,hf⟩:=hd
  obtain⟨v2,v,Y,j,ns,q0,q⟩:=h.open ht he hc hf
  have:v2=.slice a0 len cap:=by
    simp [Value.cells] at q0
    exact q0.symm
  subst this
  exact⟨v,Y,j,ns,q⟩
theorem ArgR.openRaw {P:Program} {Hh:Type} {enc:TypeId×Value→Hh} {base:Nat} {spare:Nat→Bool} {held:Bool} {t e:TypeId} {k:IntKind} {r:Reach} {b0:Nat} {v':Value} {d:DataW Hh} {ps:List MemPlace} {w:World} {H:AH} {i:Inj} (h:ArgR w H i) {f0 f1 f2 f3:Field}
    (ht:P.underlying t=some (.struct #[f0,f1,f2,f3])) (hct:P.cellsOf t=4) (h0:P.underlying f0.type=some (.int .u8)) (h1:P.underlying f1.type=some (.int .u8)) (h2:P.underlying f2.type=some (.int .u8)) (h3:P.underlying f3.type=some (.slice e))
    (o:f0.offset=0∧f1.offset=1∧f2.offset=2∧f3.offset=3) (c:P.cellsOf f0.type=1∧P.cellsOf f1.type=1∧P.cellsOf f2.type=1∧P.cellsOf f3.type=1)
    (he:P.underlying e=some (.int k)) (hc:P.cellsOf e=1) (hval:Value.okWide P w r b0 t v') (hd:DataW.Trod enc P w base spare held t v' d ps) :
    ∃ (v:Value) (Y:AH) (j:Inj) (ns:List Int) (a0 a1 a2:Int),ArgR w (H++Y) j∧i.le j∧VR j (.agg [.int .u8 a0,.int .u8 a1,.int .u8 a2,v].toArray) v'∧RowX (H++Y) v (ns.map (Value.int k))∧(∀ n∈ns,(Lit.int k n).wf=true) ∧
      (Lit.int .u8 a0).wf=true∧(Lit.int .u8 a1).wf=true∧(Lit.int .u8 a2).wf=true:=by
  unfold Value.okWide at hval
  rw [ht] at hval
  obtain⟨cs,rfl,hsz,_⟩:=hval
  obtain⟨fuel,hf⟩:=hd
  obtain⟨xs,n,_,_,hl,hlen,hg⟩:=DataW.trod_struct ht hf
  obtain⟨o0,o1,o2,o3⟩:=o
  obtain⟨c0,c1,c2,c3⟩:=c
  rw [hct] at hl
  have hcs:(Value.agg cs).cells.toList=cs.toList:=rfl
  rw [hcs] at hg hl
  have hl4:xs.length=4:=hlen
  match xs,hl4 with
  | [x0,x1,x2,x3],_ =>
    have g0:=hg 0 f0 rfl
    have g1:=hg 1 f1 rfl
    have g2:=hg 2 f2 rfl
    have g3:=hg 3 f3 rfl
    obtain⟨l⟩:=cs
    match l,hl with
    | [y0,y1,y2,y3],_ =>
      rw [o0,c0] at g0
      rw [o1,c1] at g1
      rw [o2,c2] at g2
      rw [o3,c3] at g3
      obtain⟨a0,p0,_,w0⟩:=DataW.trod_int h0 g0
      obtain⟨a1,p1,_,w1⟩:=DataW.trod_int h1 g1
      obtain⟨a2,p2,_,w2⟩:=DataW.trod_int h2 g2
      obtain⟨v2,v,Y,j,ns,q0,q1,q2,q3,q4,q5,_⟩:=h.open h3 he hc g3
      simp at p0 p1 p2 q0
      subst p0 p1 p2 q0
      refine⟨v,Y,j,ns,a0,a1,a2,q1,q2,.agg rfl fun m hm hm'=>?_,q4,q5,w0,w1,w2⟩
      match m,hm with
      | 0,_=>exact .int _ _
      | 1,_=>exact .int _ _
      | 2,_=>exact .int _ _
      | 3,_=>exact q3
end Go.Sim
