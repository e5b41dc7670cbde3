/- Part of the proof: SimG, SimH, SimI, SimJ, SimK. -/
import Derived.Test.YtbfpepbfpebmmaaGreatTLinSimCToSimF
import Derived.RangeFuncIn
import Derived.RangeFuncRecord
import Derived.RangeFuncLeaves
set_option linter.all false
namespace Go.Sim
open Go
inductive AX where
  | normal
  | exit (id:Nat)
  | ret
def Arr (P:Program) (m:Machine) (b:Frame) (k:List Item) (cs:List Frame):AX→Act→World→Prop
  | .normal,a,w=>Steps P m (lone (b.atR a k) cs w)
  | .exit id,a,w=>∃ todo,exitTo id todo=exitTo id k∧Steps P m (lone (b.atR a (.code (.exit id) :: todo)) cs w)
  | .ret,a,w=>∃ todo,Steps P m (lone (b.atR a (.code .ret :: todo)) cs w)
theorem Arr.of_steps {P:Program} {m m':Machine} {b:Frame} {k:List Item} {cs:List Frame} {x:AX} {a:Act} {w:World} (h:Steps P m m') (r:Arr P m' b k cs x a w):Arr P m b k cs x a w:=by
  cases x with
  | normal=>exact h.trans r
  | exit id=>obtain⟨t,e,s⟩:=r;exact⟨t,e,h.trans s⟩
  | ret=>obtain⟨t,s⟩:=r;exact⟨t,h.trans s⟩
def RoR (i:Inj):Option Nat→Option Nat→Prop
  | none,r=>r=none
  | some l,r=>∃ L,i l=some L∧r=some L.blk
theorem RoR.mono {i j:Inj} (h:i.le j) {a b:Option Nat} (r:RoR i a b):RoR j a b:=by
  cases a with
  | none=>exact r
  | some l=>obtain⟨L,h1,h2⟩:=r;exact⟨L,h _ _ h1,h2⟩
def CSim (P:Program) (n:Nat) (ro:Option Nat) (c:Code) (s:St) (H:AH) (x:AX) (s':St) (H':AH):Prop:=
  ∀ (i:Inj) (w:World) (b:Frame) (a:Act) (k:List Item) (cs:List Frame),Rel i H w→StR P i n s a→RoR i ro b.roundOf →
    ∃ i' w' a',Ext i i' H H' w w'∧Rel i' H' w'∧StR P i' n s' a'∧Arr P (lone (b.atR a (.code c :: k)) cs w) b k cs x a' w'
def W (P:Program) (n:Nat) (ro:Option Nat) (c:Code) (s:St) (H:AH) (Q:AX→St→AH→Prop):Prop:=
  ∃ x s' H',Q x s' H'∧CSim P n ro c s H x s' H'
section rules
variable {P:Program} {n:Nat} {ro:Option Nat} {s:St} {H:AH} {Q:AX→St→AH→Prop}
theorem W.mono {c:Code} {Q':AX→St→AH→Prop} (h:W P n ro c s H Q) (hq:∀ x s H,Q x s H→Q' x s H):W P n ro c s H Q':=
  let ⟨x,s',H',q,r⟩:=h;⟨x,s',H',hq _ _ _ q,r⟩
theorem W.skip (h:Q .normal s H):W P n ro .skip s H Q:=
  ⟨.normal,s,H,h,fun i w _ a _ _ hr hs _=>⟨i,w,a,.refl hr,hr,hs,.one stepR_skip⟩⟩
theorem W.exit {id:Nat} (h:Q (.exit id) s H):W P n ro (.exit id) s H Q:=
  ⟨.exit id,s,H,h,fun i w _ a k _ hr hs _=>⟨i,w,a,.refl hr,hr,hs,k,rfl,Steps.refl _ _⟩⟩
theorem W.ret (h:Q .ret s H):W P n ro .ret s H Q:=
  ⟨.ret,s,H,h,fun i w _ a k _ hr hs _=>⟨i,w,a,.refl hr,hr,hs,k,Steps.refl _ _⟩⟩
def AX.then (K:St→AH→Prop) (Q:AX→St→AH→Prop):AX→St→AH→Prop
  | .normal,s,H=>K s H
  | x,s,H=>Q x s H
theorem Arr.pass {P:Program} {m:Machine} {b:Frame} {k:List Item} {cs:List Frame} {x:AX} {a:Act} {w:World} {it:Item} (hx:∀ id,exitTo id (it :: k)=exitTo id k) (hn:x≠.normal) (r:Arr P m b (it :: k) cs x a w):Arr P m b k cs x a w:=by
  cases x with
  | normal=>exact absurd rfl hn
  | exit id=>obtain⟨t,e,s⟩:=r;exact⟨t,e.trans (hx id),s⟩
  | ret=>exact r
theorem W.seq {c d:Code} (h:W P n ro c s H (AX.then (fun s H=>W P n ro d s H Q) Q)):W P n ro (.seq c d) s H Q:=by
  obtain⟨x,s1,H1,q,r⟩:=h
  cases x with
  | normal =>
    obtain⟨y,s2,H2,q2,r2⟩:=q
    refine⟨y,s2,H2,q2,fun i w b a k cs hr hs hro=>?_⟩
    obtain⟨i1,w1,a1,e1,g1,t1,p1⟩:=r i w b a (.code d :: k) cs hr hs hro
    obtain⟨i2,w2,a2,e2,g2,t2,p2⟩:=r2 i1 w1 b a1 k cs g1 t1 (hro.mono e1.le)
    exact⟨i2,w2,a2,e1.trans e2,g2,t2,.of_steps (.head stepR_seq p1) p2⟩
  | exit id =>
    refine⟨_,s1,H1,q,fun i w b a k cs hr hs hro=>?_⟩
    obtain⟨i1,w1,a1,e1,g1,t1,p1⟩:=r i w b a (.code d :: k) cs hr hs hro
    exact⟨i1,w1,a1,e1,g1,t1,.of_steps (.one stepR_seq) (Arr.pass (fun _=>rfl) (by simp) p1)⟩
  | ret =>
    refine⟨_,s1,H1,q,fun i w b a k cs hr hs hro=>?_⟩
    obtain⟨i1,w1,a1,e1,g1,t1,p1⟩:=r i w b a (.code d :: k) cs hr hs hro
    exact⟨i1,w1,a1,e1,g1,t1,.of_steps (.one stepR_seq) (Arr.pass (fun _=>rfl) (by simp) p1)⟩
theorem W.cond {c:Operand} {x y:Code} {t:Bool} (hc:okX c=true) (ht:ev s c=.bool t) (h:W P n ro (if t then x else y) s H Q):W P n ro (.cond c x y) s H Q:=by
  obtain⟨e,s1,H1,q,r⟩:=h
  refine⟨e,s1,H1,q,fun i w b a k cs hr hs hro=>?_⟩
  obtain⟨i1,w1,a1,e1,g1,t1,p1⟩:=r i w b a k cs hr hs hro
  have hv:=ev_rel hs hc
  rw [ht] at hv
  have hb:a.eval c=.bool t:=by
    generalize a.eval c=z at hv
    cases hv;rfl
  exact⟨i1,w1,a1,e1,g1,t1,.of_steps (.one (stepR_cond hb)) p1⟩
def AX.inBlock (id:Nat) (Q:AX→St→AH→Prop):AX→St→AH→Prop
  | .exit id',s,H=>if id'=id then Q .normal s H else Q (.exit id') s H
  | x,s,H=>Q x s H
theorem W.block {id:Nat} {c:Code} (h:W P n ro c s H (AX.inBlock id Q)):W P n ro (.block id c) s H Q:=by
  obtain⟨x,s1,H1,q,r⟩:=h
  cases x with
  | normal =>
    refine⟨.normal,s1,H1,q,fun i w b a k cs hr hs hro=>?_⟩
    obtain⟨i1,w1,a1,e1,g1,t1,p1⟩:=r i w b a (.inBlock id :: k) cs hr hs hro
    exact⟨i1,w1,a1,e1,g1,t1,.head stepR_block (Steps.trans p1 (.one stepR_inBlock))⟩
  | exit id' =>
    by_cases hid:id'=id
    · simp only [AX.inBlock,hid,if_true] at q
      refine⟨.normal,s1,H1,q,fun i w b a k cs hr hs hro=>?_⟩
      obtain⟨i1,w1,a1,e1,g1,t1,todo,p1,p2⟩:=r i w b a (.inBlock id :: k) cs hr hs hro
      refine⟨i1,w1,a1,e1,g1,t1,.head stepR_block (Steps.trans p2 (.one (stepR_exit ?_)))⟩
      rw [p1,hid];simp [exitTo]
    · simp only [AX.inBlock,hid,if_false] at q
      refine⟨.exit id',s1,H1,q,fun i w b a k cs hr hs hro=>?_⟩
      obtain⟨i1,w1,a1,e1,g1,t1,todo,p1,p2⟩:=r i w b a (.inBlock id :: k) cs hr hs hro
      refine⟨i1,w1,a1,e1,g1,t1,todo,?_,.head stepR_block p2⟩
      rw [p1]
      have:(id == id')=false:=by simp;exact fun h=>hid h.symm
      simp [exitTo,this]
  | ret =>
    refine⟨.ret,s1,H1,q,fun i w b a k cs hr hs hro=>?_⟩
    obtain⟨i1,w1,a1,e1,g1,t1,todo,p1⟩:=r i w b a (.inBlock id :: k) cs hr hs hro
    exact⟨i1,w1,a1,e1,g1,t1,todo,.head stepR_block p1⟩
theorem W.loop {c:Code} (I:St→AH→Prop) (μ:St→AH→Nat) (h0:I s H)
    (round:∀ s H,I s H→W P n ro c s H (AX.then (fun s' H'=>I s' H'∧μ s' H'<μ s H) Q)):W P n ro (.loop c) s H Q:=by
  -- from the loop's body on
  have key:∀ m s H,μ s H=m→I s H→∃ x s' H',Q x s' H'∧∀ (i:Inj) (w:World) (b:Frame) (a:Act) (k:List Item) (cs:List Frame),Rel i H w→StR P i n s a→RoR i ro b.roundOf →
      ∃ i' w' a',Ext i i' H H' w w'∧Rel i' H' w'∧StR P i' n s' a'∧Arr P (lone (b.atR a (.code c :: .inLoop c :: k)) cs w) b k cs x a' w':=by
    intro m
    induction m using Nat.strongRecOn with
    | _ m ih =>
      intro s H hm hI
      obtain⟨x,s1,H1,q,r⟩:=round s H hI
      cases x with
      | normal =>
        obtain⟨hI1,hlt⟩:=q
        obtain⟨y,s2,H2,q2,r2⟩:=ih (μ s1 H1) (hm ▸ hlt) s1 H1 rfl hI1
        refine⟨y,s2,H2,q2,fun i w b a k cs hr hs hro=>?_⟩
        obtain⟨i1,w1,a1,e1,g1,t1,p1⟩:=r i w b a (.inLoop c :: k) cs hr hs hro
        obtain⟨i2,w2,a2,e2,g2,t2,p2⟩:=r2 i1 w1 b a1 k cs g1 t1 (hro.mono e1.le)
        exact⟨i2,w2,a2,e1.trans e2,g2,t2,.of_steps (Steps.trans p1 (.one stepR_inLoop)) p2⟩
      | exit id =>
        refine⟨_,s1,H1,q,fun i w b a k cs hr hs hro=>?_⟩
        obtain⟨i1,w1,a1,e1,g1,t1,p1⟩:=r i w b a (.inLoop c :: k) cs hr hs hro
        exact⟨i1,w1,a1,e1,g1,t1,Arr.pass (fun _=>rfl) (by simp) p1⟩
      | ret =>
        refine⟨_,s1,H1,q,fun i w b a k cs hr hs hro=>?_⟩
        obtain⟨i1,w1,a1,e1,g1,t1,p1⟩:=r i w b a (.inLoop c :: k) cs hr hs hro
        exact⟨i1,w1,a1,e1,g1,t1,Arr.pass (fun _=>rfl) (by simp) p1⟩
  obtain⟨x,s',H',q,r⟩:=key _ s H rfl h0
  refine⟨x,s',H',q,fun i w b a k cs hr hs hro=>?_⟩
  obtain⟨i1,w1,a1,e1,g1,t1,p1⟩:=r i w b a k cs hr hs hro
  exact⟨i1,w1,a1,e1,g1,t1,.of_steps (.one stepR_loop) p1⟩
end rules
def qb8 (ops:Array Oper) (s:St) (o:Oper):Bool:=
  match o.guard with
  | none=>true
  | some (j,want)=>match (ops[j]?).bind (·.dst) with
    | some d=>match s.env d with
      | .bool b=>b == want
      | _=>false
    | none=>false
theorem qf9 {i:Inj} {s:St} {a:Act} (h:∀ t,VR i (s.env t) (a.tmps.getD t undef)) (ops:Array Oper) (o:Oper):Region.wanted o (yielded ops a.tmps)=qb8 ops s o:=by
  unfold Region.wanted qb8
  cases hg:o.guard with
  | none=>rfl
  | some g =>
    obtain⟨j,want⟩:=g
    simp only [yielded]
    cases hd:(ops[j]?).bind (·.dst) with
    | none=>simp
    | some d =>
      simp only [Option.bind_some]
      have hv:=h d
      rw [Array.getD_eq_getD_getElem?] at hv
      cases ht:a.tmps[d]? with
      | none =>
        rw [ht] at hv
        simp only [Option.getD_none] at hv
        generalize s.env d=z at hv
        cases z<;>first|rfl|(cases hv)
      | some u =>
        rw [ht] at hv
        simp only [Option.getD_some] at hv
        generalize s.env d=z at hv
        cases hv<;>simp
def opsW (P:Program) (n:Nat) (ro:Option Nat) (ops:Array Oper):List Nat→St→AH→(St→AH→Prop)→Prop
  | [],s,H,K=>K s H
  | j :: rest,s,H,K=>∃ o,ops[j]? = some o∧(∀ d,o.dst=some d→d<n) ∧
      ((qb8 ops s o=false∧opsW P n ro ops rest (s.put o.dst undef) H K) ∨
       (qb8 ops s o=true∧o.op.operands.toList.all okX=true∧∃ v H',qfw P o (o.op.operands.toList.map (ev s)) H v H'∧opsW P n ro ops rest (s.put o.dst v) H' K) ∨
       (ro=none∧qb8 ops s o=true∧o.op.operands.toList.all okX=true∧∃ c f g fi ca,o.op=.defer c∧c.callee=.value f∧c.args = #[]∧ev s f=.func (.func g) fi ca ∧
         (∀ ca' ar',QuietD P ⟨.fn (.func g) ca',ar'⟩)∧opsW P n ro ops rest (s.put o.dst undef) H K))
theorem qh5 {P:Program} {n:Nat} {ro:Option Nat} {ops:Array Oper}:∀ (l:List Nat) (s:St) (H:AH) (K:St→AH→Prop),opsW P n ro ops l s H K →
    ∃ s' H',K s' H'∧∀ (i:Inj) (w:World) (b:Frame) (a:Act) (k:List Item) (cs:List Frame),Rel i H w→StR P i n s a→RoR i ro b.roundOf →
      ∃ i' w' a',Ext i i' H H' w w'∧Rel i' H' w'∧StR P i' n s' a'∧Steps P (lone (b.atR a (.inRegion ops l :: k)) cs w) (lone (b.atR a' k) cs w')
  | [],s,H,K,h=>⟨s,H,h,fun i w b a k cs hr hs _=>⟨i,w,a,.refl hr,hr,hs,.one stepR_region_end⟩⟩
  | j :: rest,s,H,K,h=>by
    obtain⟨o,ho,hd,h⟩:=h
    rcases h with ⟨hw,h⟩|⟨hw,hx,v,H1,hop,h⟩|⟨hro,hw,hx,c,f,g,fi,ca,hop,hcal,hargs,hev,hq,h⟩
    · obtain⟨s',H',q,r⟩:=qh5 rest _ _ K h
      refine⟨s',H',q,fun i w b a k cs hr hs hro=>?_⟩
      obtain⟨i2,w2,a2,e2,g2,t2,p2⟩:=r i w b (a.put o.dst undef) k cs hr (hs.put hd (VR.undef i)) hro
      refine⟨i2,w2,a2,e2,g2,t2,.head ?_ p2⟩
      have:=stepR_op_skip (P:=P) (b:=b) (a:=a) (k:=k) (cs:=cs) (w:=w) (ops:=ops) (i:=j) (rest:=rest) (by rw [ho];simp [qf9 hs.env,hw])
      rw [ho] at this
      exact this
    · obtain⟨s',H',q,r⟩:=qh5 rest _ _ K h
      refine⟨s',H',q,fun i w b a k cs hr hs hro=>?_⟩
      obtain⟨i1,w1,v1,e1,g1,hv1,p1⟩:=hop i w _ hr (evs_rel hs hx) b a ops j rest k cs ho (by rw [qf9 hs.env,hw]) rfl
      obtain⟨i2,w2,a2,e2,g2,t2,p2⟩:=r i1 w1 b (a.put o.dst v1) k cs g1 ((hs.mono e1.le).put hd hv1) (hro.mono e1.le)
      exact⟨i2,w2,a2,e1.trans e2,g2,t2,p1.trans p2⟩
    · subst hro
      obtain⟨s',H',q,r⟩:=qh5 rest _ _ K h
      refine⟨s',H',q,fun i w b a k cs hr hs hro=>?_⟩
      have hvf:VR i (.func (.func g) fi ca) (a.eval f):=by
        have hx':okX f=true:=by
          have:f∈o.op.operands.toList:=by rw [hop];simp [Op.operands,Call.operands,hcal]
          exact List.all_eq_true.1 hx f this
        rw [←hev];exact ev_rel hs hx'
      obtain⟨fi',ca',hfe⟩:∃ fi' ca',a.eval f=.func (.func g) fi' ca':=by
        generalize a.eval f=z at hvf
        cases hvf with
        | func hfn=>cases hfn;exact⟨_,_,rfl⟩
      obtain⟨d,hd0⟩:∃ d:Deferred,d=⟨.fn (.func g) ca',fi'⟩:=⟨_,rfl⟩
      have hdc:qrk d=false:=by rw [hd0];rfl
      have hdq:QuietD P d:=by rw [hd0];exact hq _ _
      have hs':StR P i n s { a with defers:=d :: a.defers }:=⟨hs.size,hs.env,hs.ds.quiet hdc hdq⟩
      obtain⟨i2,w2,a2,e2,g2,t2,p2⟩:=r i w b (Act.put { a with defers:=d :: a.defers } o.dst undef) k cs hr (hs'.put hd (VR.undef i)) hro
      refine⟨i2,w2,a2,e2,g2,t2,.head (step_lone_go ?_) p2⟩
      have hg:=stepGR_op (P:=P) (b:=b) (a:=a) (k:=k) (cs:=cs) (w:=w) (rest:=rest) ho (by rw [qf9 hs.env,hw])
      rw [show b.roundOf=none from hro,Oper.semAt_none] at hg
      have hrun:(execOp a.eval o).run P w=.ok (.defer d) w:=by
        unfold execOp
        rw [hop,hd0]
        simp [resolve,hcal,hargs,hfe,Deferred.ofValue]
      have hfin:({ b.atR a (.inRegion ops (j :: rest) :: k) with defers:=d :: a.defers }:Frame).finish undef =
          b.atR (Act.put { a with defers:=d :: a.defers } o.dst undef) (.inRegion ops rest :: k):=by
        have:=Frame.finish_atR b { a with defers:=d :: a.defers } ops j rest k undef
        rw [ho] at this;exact this
      rw [hg];simp only [stepG.apply,Sem.runT_eq,hrun,GStep.bare_after]
      exact congrArg (fun fr=>GStep.go { frame:=fr,callers:=cs,status:=.running,dying:=none } w) hfin
theorem W.region {P:Program} {n:Nat} {ro:Option Nat} {s:St} {H:AH} {Q:AX→St→AH→Prop} {id:Nat} {ops:Array Oper} (h:opsW P n ro ops (List.range ops.size) s H (Q .normal)):W P n ro (.region id ops false) s H Q:=by
  obtain⟨s',H',q,r⟩:=qh5 _ _ _ _ h
  refine⟨.normal,s',H',q,fun i w b a k cs hr hs hro=>?_⟩
  obtain⟨i2,w2,a2,e2,g2,t2,p2⟩:=r i w b a k cs hr hs hro
  exact⟨i2,w2,a2,e2,g2,t2,.head stepR_region p2⟩
def FSim (P:Program) (f:FuncId) (args:List Value) (H:AH) (v:Value) (H':AH):Prop:=
  ∀ (i:Inj) (w:World) (args':List Value),Rel i H w→VRs i args args'→∀ cs,∃ i' w' v' fr,Ext i i' H H' w w'∧Rel i' H' w'∧VR i' v v' ∧
    Steps P (lone (Frame.enter P f args'.toArray .normal) cs w) (lone fr cs w')∧fr.fn=f∧fr.leaving P w' (.returned v')
def F (P:Program) (f:FuncId) (args:List Value) (H:AH) (R:Value→AH→Prop):Prop:=∃ v H',R v H'∧FSim P f args H v H'
theorem F.mono {P:Program} {f:FuncId} {args:List Value} {H:AH} {R R':Value→AH→Prop} (h:F P f args H R) (hr:∀ v H,R v H→R' v H):F P f args H R':=
  let ⟨v,H',r,q⟩:=h;⟨v,H',hr _ _ r,q⟩
def env0 (args:List Value):Nat→Value:=fun t=>args.getD t undef
def resA (P:Program) (H:AH) (s:St):ResultVar→Option Value
  | .tmp t=>some (s.env t)
  | .cell a t=>match s.env a with
    | .pointer (some ad)=>eload P H t ad
    | _=>none
def ressA (P:Program) (H:AH) (s:St) (l:List ResultVar):Option Value:=
  match l.mapM (resA P H s) with
  | some [v]=>some v
  | some vs=>some (.tuple vs.toArray)
  | none=>none
def resC (tmps:Array Value):ResultVar→Sem Value
  | .tmp t=>pure (tmps.getD t undef)
  | .cell a t=>do loadVar t (←asAddr (tmps.getD a undef))
theorem results_eq (fn:Func) (tmps:Array Value):results fn tmps=(do let vs ←fn.results.mapM (resC tmps);pure (if h:vs.size=1 then vs[0] else .tuple vs)):=by
  unfold results
  rfl
theorem resA_sim {P:Program} {i:Inj} {n:Nat} {H:AH} {w:World} {s:St} {a:Act} (hr:Rel i H w) (hs:StR P i n s a) {r:ResultVar} {v:Value} (h:resA P H s r=some v) :
    ∃ v',VR i v v'∧(resC a.tmps r).run P w=.ok v' w:=by
  cases r with
  | tmp t =>
    simp [resA] at h
    subst h
    exact⟨_,hs.env t,rfl⟩
  | cell p t =>
    have hv:=hs.env p
    unfold resA at h
    simp only at h
    split at h
    · rename_i ad he
      rw [he] at hv
      unfold resC
      simp only
      generalize a.tmps.getD p undef=z at hv ⊢
      cases hv with
      | ptr hb hsp =>
        obtain⟨v',h1,h2⟩:=qrb hr hb h
        exact⟨v',h1,by simp only [asAddr,Sem.run_bind,Sem.run_pure,Result.andThen_ok,h2]⟩
    · cases h
theorem ress_sim {P:Program} {i:Inj} {n:Nat} {H:AH} {w:World} {s:St} {a:Act} (hr:Rel i H w) (hs:StR P i n s a):∀ (l:List ResultVar) (vs:List Value),l.mapM (resA P H s)=some vs →
    ∃ vs',VRs i vs vs'∧(l.mapM (resC a.tmps)).run P w=.ok vs' w
  | [],vs,h=>by
    simp at h
    subst h
    exact⟨[],.nil,by simp⟩
  | r :: l,vs,h=>by
    simp only [List.mapM_cons,Option.bind_eq_bind,Option.bind_eq_some_iff,Option.pure_def,Option.some.injEq] at h
    obtain⟨v,h1,us,h2,rfl⟩:=h
    obtain⟨v',p,q⟩:=resA_sim hr hs h1
    obtain⟨us',p2,q2⟩:=ress_sim hr hs l us h2
    refine⟨v' :: us',.cons p p2,?_⟩
    rw [List.mapM_cons,Sem.run_bind,q,Result.andThen_ok,Sem.run_bind,q2,Result.andThen_ok]
    rfl
theorem results_sim {P:Program} {i:Inj} {n:Nat} {H:AH} {w:World} {s:St} {a:Act} (hr:Rel i H w) (hs:StR P i n s a) {fn:Func} {v:Value} (h:ressA P H s fn.results.toList=some v) :
    ∃ v',VR i v v'∧(results fn a.tmps).run P w=.ok v' w:=by
  unfold ressA at h
  cases hm:fn.results.toList.mapM (resA P H s) with
  | none=>simp [hm] at h
  | some vs =>
    obtain⟨vs',h1,h2⟩:=ress_sim hr hs _ vs hm
    have hrun:(fn.results.mapM (resC a.tmps)).run P w=.ok vs'.toArray w:=by
      rw [Array.mapM_eq_mapM_toList,Sem.run_map,h2,Result.andThen_ok]
    rw [hm] at h
    have hres:(results fn a.tmps).run P w=.ok (if h:vs'.toArray.size=1 then vs'.toArray[0] else .tuple vs'.toArray) w:=by
      rw [results_eq,Sem.run_bind,hrun,Result.andThen_ok]
      rfl
    cases h1 with
    | nil =>
      simp at h
      subst h
      exact⟨_,VRs.tup .nil,by rw [hres];rfl⟩
    | cons p q =>
      cases q with
      | nil =>
        simp at h
        subst h
        exact⟨_,p,by rw [hres];rfl⟩
      | cons q1 q2 =>
        simp at h
        subst h
        refine⟨_,VRs.tup (.cons p (.cons q1 q2)),?_⟩
        rw [hres,dif_neg (by simp)]
def unwA:List Deferred→AH→Option AH
  | [],H=>some H
  | ⟨.collected r,_⟩ :: ds,H=>match H[r]? with
    | some (.defs (some []))=>unwA ds (H.set r (.defs none))
    | _=>none
  | _ :: _,_=>none
def bodyQ (P:Program) (fn:Func) (R:Value→AH→Prop):AX→St→AH→Prop
  | .exit _,_,_=>False
  | _,s,H=>∃ H' v,unwA s.ds H=some H'∧ressA P H' s fn.results.toList=some v∧R v H'
theorem rel_obj {i:Inj} {H:AH} {w:World} (h:Rel i H w) {b:Nat} {L:Loc} {x x':AB} {o':Obj} (hb:i b=some L) (hx:H[b]? = some x) (ho:x.owned=true) (hbl:BlkR i x' L (w.putObj L.blk o')) :
    Rel i (H.set b x') (w.putObj L.blk o')∧Ext i i H (H.set b x') w (w.putObj L.blk o'):=by
  have hlt:b<H.length:=h.dom b L hb
  refine⟨⟨fun n M hn=>by simpa using h.dom n M hn,fun n M y hn hy=>?_,fun b1 b2 L1 L2 x1 x2 f1 f2 g1 g2 o1 l2 hL=>?_⟩,?_⟩
  · by_cases hnb:n=b
    · subst hnb
      rw [hb] at hn
      cases hn
      rw [List.getElem?_set_self hlt] at hy
      cases hy
      exact hbl
    · rw [List.getElem?_set_ne (Ne.symm hnb)] at hy
      have hr:=h.blk n M y hn hy
      by_cases hyl:y.live=true
      · refine hr.heap (World.putObj_heap_other ?_)
        intro hM
        exact hnb (h.inj b n L M x y hb hn hx hy ho hyl hM.symm).symm
      · cases y<;>simp [AB.live] at hyl
        trivial
  · have key:∀ (n:Nat) (y:AB),(H.set b x')[n]? = some y→n=b∨(n≠b∧H[n]? = some y):=by
      intro n y hy
      by_cases hnb:n=b
      · exact .inl hnb
      · rw [List.getElem?_set_ne (Ne.symm hnb)] at hy;exact .inr ⟨hnb,hy⟩
    rcases key b1 x1 g1 with rfl|⟨n1,g1'⟩
    · rcases key b2 x2 g2 with rfl|⟨n2,g2'⟩
      · rfl
      · exact h.inj b1 b2 L1 L2 x x2 f1 f2 hx g2' ho l2 hL
    · rcases key b2 x2 g2 with rfl|⟨n2,g2'⟩
      · exact h.inj b1 b2 L1 L2 x1 x f1 f2 g1' hx o1 (AB.owned_live ho) hL
      · exact h.inj b1 b2 L1 L2 x1 x2 f1 f2 g1' g2' o1 l2 hL
  · refine⟨h.dom,i.le_refl,rfl,rfl,rfl,by simp,by simp,fun n y hn hy hyo=>?_,fun n hn hno=>?_,fun n hn hi=>?_,fun n M hn=>.inl hn⟩
    · by_cases hnb:n=b
      · subst hnb;exact⟨x,hx,ho⟩
      · rw [List.getElem?_set_ne (Ne.symm hnb)] at hy;exact⟨y,hy,hyo⟩
    · exact World.putObj_heap_other (fun hM=>hno b L x hb hx ho hM.symm)
    · refine List.getElem?_set_ne (fun hnb=>?_)
      subst hnb;rw [hb] at hi;cases hi
theorem unw_sim {P:Program}:∀ (ds' ds:List Deferred) (H H':AH) (i:Inj) (w:World) (fr:Frame) (cs:List Frame),unwA ds H=some H'→Rel i H w→DefsR i ds (ds'.filter qrk) →
    (∀ d∈ds',qrk d=false→QuietD P d)→fr.mode=.returning→fr.defers=ds' →
    ∃ w',Ext i i H H' w w'∧Rel i H' w'∧Steps P (lone fr cs w) (lone { fr with defers:=[] } cs w')
  | [],ds,H,H',i,w,fr,cs,h,hr,hd,hq,hm,hf=>by
    simp only [List.filter_nil] at hd
    cases hd
    simp [unwA] at h
    subst h
    refine⟨w,.refl hr,hr,?_⟩
    have:{ fr with defers:=[] }=fr:=by cases fr;simp at hf;simp [hf]
    rw [this];exact Steps.refl _ _
  | d' :: ds',ds,H,H',i,w,fr,cs,h,hr,hd,hq,hm,hf=>by
    cases hc:qrk d' with
    | false =>
      rw [List.filter_cons_of_neg (by simp [hc])] at hd
      obtain⟨w2,e2,g2,p2⟩:=unw_sim ds' ds H H' i w { fr with defers:=ds' } cs h hr hd (fun d hd hc=>hq d (.tail _ hd) hc) hm rfl
      exact⟨w2,e2,g2,(hq d' (.head _) hc fr cs w ds' hm hf).trans p2⟩
    | true =>
      rw [List.filter_cons_of_pos hc] at hd
      cases hd with
      | cons hd1 hd2 =>
        cases hd1 with
        | fn=>cases hc
        | collected e =>
          rename_i l' r L
          simp only [unwA] at h
          split at h
          · rename_i hH
            obtain⟨d',hw1,hw2⟩:=hr.blk r L _ e hH
            cases hw2
            have hlt:L.blk<w.heap.size:=(Array.getElem?_eq_some_iff.1 hw1).1
            obtain⟨hrel,hext⟩:=rel_obj hr (x':=.defs none) (o':=.deferred none) e hH rfl (World.putObj_heap_same hlt)
            obtain⟨w2,e2,g2,p2⟩:=unw_sim ds' _ _ H' i (w.putObj L.blk (.deferred none)) { fr with defers:=ds' } cs h hrel hd2 (fun d hd hc=>hq d (.tail _ hd) hc) hm rfl
            refine⟨w2,hext.trans e2,g2,.head ?_ p2⟩
            have:=step_collected (P:=P) (fr:=fr) (cs:=cs) (w:=w) (calls:=[]) (by rw [hm];simp) hf rfl (run_takeDeferred hw1)
            simpa using this
          · cases h
theorem env0_rel {P:Program} {i:Inj} {args args':List Value} (h:VRs i args args') (m:Nat):StR P i (args.length+(m-args.length)) ⟨env0 args,[]⟩ { tmps:=args'.toArray++Array.replicate (m-args'.toArray.size) undef,defers:=[] }:=by
  have hl:=h.length
  refine⟨by simp [hl],fun t=>?_,.nil⟩
  simp only [env0]
  rw [Array.getD_eq_getD_getElem?,List.getD_eq_getElem?_getD]
  by_cases ht:t<args.length
  · obtain⟨v',h1,h2⟩:=h.get (List.getElem?_eq_getElem ht)
    rw [Array.getElem?_append_left (by simpa [←hl] using ht)]
    simp only [List.getElem?_toArray,h1,List.getElem?_eq_getElem ht,Option.getD_some]
    exact h2
  · rw [List.getElem?_eq_none (by omega),Array.getElem?_append_right (by simp;omega)]
    simp only [Array.getElem?_replicate,Option.getD_none]
    split<;>exact VR.undef i
theorem F.of_body {P:Program} {f:FuncId} {fn:Func} {c:Code} {args:List Value} {H:AH} {R:Value→AH→Prop} (hf:P.funcs[f]? = some fn) (hb:fn.body=some c) (hn:args.length≤fn.ntmps)
    (h:W P fn.ntmps none c ⟨env0 args,[]⟩ H (bodyQ P fn R)):F P f args H R:=by
  obtain⟨x,s',H',q,r⟩:=h
  have key:∃ H'' v,unwA s'.ds H'=some H''∧ressA P H'' s' fn.results.toList=some v∧R v H'':=by
    cases x with
    | exit id=>exact q.elim
    | normal=>exact q
    | ret=>exact q
  obtain⟨H'',v,hun,hres,hR⟩:=key
  refine⟨v,H'',hR,fun i w args' hr hv cs=>?_⟩
  let b:Frame:={ (default:Frame) with fn:=f,kind:=.normal,roundOf:=none }
  have henter:Frame.enter P f args'.toArray .normal=b.atR { tmps:=args'.toArray++Array.replicate (fn.ntmps-args'.toArray.size) undef,defers:=[] } [.code c]:=by
    simp [Frame.enter,Frame.atR,hf,hb,b]
  have hs:=env0_rel (P:=P) hv fn.ntmps
  rw [show args.length+(fn.ntmps-args.length)=fn.ntmps by omega] at hs
  obtain⟨i1,w1,a1,e1,g1,t1,p1⟩:=r i w b _ [] cs hr hs rfl
  have fin:∃ todo,Steps P (lone (b.atR { tmps:=args'.toArray++Array.replicate (fn.ntmps-args'.toArray.size) undef,defers:=[] } [.code c]) cs w) (lone { b.atR a1 todo with mode:=.returning } cs w1):=by
    cases x with
    | exit id=>exact q.elim
    | normal=>exact⟨[],Steps.trans p1 (.one (stepR_end rfl))⟩
    | ret=>obtain⟨todo,p1⟩:=p1;exact⟨.code .ret :: todo,Steps.trans p1 (.one (stepR_ret rfl))⟩
  obtain⟨todo,fin⟩:=fin
  obtain⟨w2,e2,g2,p2⟩:=unw_sim (P:=P) a1.defers s'.ds H' H'' i1 w1 { b.atR a1 todo with mode:=.returning } cs hun g1 t1.ds.col t1.ds.qd rfl rfl
  obtain⟨v',hv1,hv2⟩:=results_sim g2 t1 hres
  rw [henter]
  exact⟨i1,w2,v',_,e1.trans e2,g2,hv1,fin.trans p2,rfl,rfl,rfl,rfl,fn,hf,hv2⟩
theorem opSim_call {P:Program} {o:Oper} {c:Call} {f:Operand} (ho:o.op=.call c) (hc:c.callee=.value f) {g:FuncId} {fn:Func} (hg:P.funcs[g]? = some fn) (hb:fn.body.isSome=true) (hname:(fn.name == "runtime.NumGoroutine")=false)
    {first cap:Array Value} {vs:List Value} {v:Value} {H H':AH} (h:FSim P g (first.toList++vs++cap.toList) H v H'):qfw P o (.func (.func g) first cap :: vs) H v H':=by
  intro i w vs' hr hvs b a ops j rest k cs ho' hw hρ
  cases hvs with
  | cons hf hrest =>
    rename_i f' us'
    cases hf with
    | func hfn hs1 h1 hs2 h2 =>
      rename_i fn' first' cap'
      cases hfn
      have hop:o.op.operands.toList=f :: c.args.toList:=by rw [ho];simp [Op.operands,Call.operands,hc]
      rw [hop] at hρ
      simp only [List.map_cons,List.cons.injEq] at hρ
      obtain⟨e1,e2⟩:=hρ
      have hargs:VRs i (first.toList++vs++cap.toList) (first'.toList++us'++cap'.toList):=((VRs.of_arr hs1 h1).append hrest).append (VRs.of_arr hs2 h2)
      obtain⟨i',w',v',fr,q1,q2,q3,q4,q5,q6⟩:=h i w _ hr hargs (b.atR a (.inRegion ops (j :: rest) :: k) :: cs)
      refine⟨i',w',v',q1,q2,q3,?_⟩
      have hnd:∀ c,o.op≠.defer c:=by intro c';rw [ho];simp
      have hgs:=stepGR_op (P:=P) (b:=b) (k:=k) (cs:=cs) (w:=w) (rest:=rest) ho' hw
      rw [Oper.semAt_eq _ _ _ hnd] at hgs
      have hrun:(execOp a.eval o).run P w=.ok (.enter g (first'.toList++us'++cap'.toList).toArray) w:=by
        unfold execOp
        rw [ho]
        have ha:(c.args.map a.eval)=us'.toArray:=by
          apply Array.ext'
          simpa using e2
        simp only [resolve,hc,e1,ha,Deferred.ofValue,Sem.run_bind,Sem.run_pure,Result.andThen_ok,invoke,callFunc,program,Sem.run,hg,hname,Bool.false_eq_true,if_false]
        rw [if_neg (by cases hbb:fn.body<;>simp_all)]
        simp
      have hfin:∀ u,(b.atR a (.inRegion ops (j :: rest) :: k)).finish u=b.atR (a.put o.dst u) (.inRegion ops rest :: k):=by
        intro u;rw [Frame.finish_atR,ho'];rfl
      have henter:step P (lone (b.atR a (.inRegion ops (j :: rest) :: k)) cs w)=.next (lone (Frame.enter P g (first'.toList++us'++cap'.toList).toArray .normal) (b.atR a (.inRegion ops (j :: rest) :: k) :: cs) w):=
        step_lone_go (by rw [hgs];simp [stepG.apply,hrun,Frame.atR])
      refine .head henter (q4.trans (.one ?_))
      rw [←hfin]
      exact step_leave_returned q6
end Go.Sim

namespace Go.Sim
open Go
def qc3 (ops:Array Oper) (j:Nat):List Nat:=match ops[j]? with
  | some o=>(o.after.toList.filter fun e=>Region.binds .any e).map (·.on)
  | none=>[]
def befF (ops:Array Oper):Nat→Nat→Nat→Bool
  | 0,_,_=>false
  | f+1,m,j=>(qc3 ops j).any fun k=>k == m || befF ops f m k
def bef (ops:Array Oper) (m j:Nat):Bool:=befF ops ops.size m j
theorem qfg {ops:Array Oper} {L:Nat→Bool} (hc:∀ j k,L j=true→k∈qc3 ops j→L k=true):∀ (f m j:Nat),befF ops f m j=true→(∀ k,k∈qc3 ops j→L k=true)→L m=true
  | 0,_,_,h,_=>by simp [befF] at h
  | f+1,m,j,h,hj=>by
    simp only [befF,List.any_eq_true,Bool.or_eq_true,beq_iff_eq] at h
    obtain⟨k,hk,h⟩:=h
    rcases h with rfl|h
    · exact hj k hk
    · exact qfg hc f m k h (fun k' hk'=>hc k k' (hj k hk) hk')
def qcp (ops:Array Oper) (j:Nat):Option Tmp:=(ops[j]?).bind (·.dst)
def looks (ops:Array Oper) (j:Nat):List Tmp:=match ops[j]? with|some o=>o.looksAt ops|none=>[]
def qhd (r:Nat→Nat→Bool):List Nat→Bool
  | []=>true
  | x :: l=>l.all (fun y=>r x y) && qhd r l
theorem qjg {r:Nat→Nat→Bool}:∀ {l:List Nat},qhd r l=true→l.Pairwise (fun a b=>r a b=true)
  | [],_=>.nil
  | x :: l,h=>by
    simp only [qhd,Bool.and_eq_true,List.all_eq_true] at h
    exact .cons h.1 (qjg h.2)
def okD (ops:Array Oper) (ord:List Nat) (ch:List Nat):Bool:=
  (ord.length == ops.size && (List.range ops.size).all (fun j=>ord.contains j) && ord.all (fun j=>decide (j<ops.size))) &&
  qhd (fun a b=>!(bef ops b a) && a != b && (!(ch.contains a) || ch.contains b || bef ops a b) && (!(ch.contains a) || !(ch.contains b) || bef ops a b) && (!(qc3 ops a).contains b)) ord &&
  (List.range ops.size).all (fun j=>!(qc3 ops j).contains j && (qc3 ops j).all (fun k=>decide (k<ops.size))) &&
  (List.range ops.size).all (fun j=>(List.range ops.size).all fun m=>j == m || (qcp ops j).isNone || qcp ops j != qcp ops m) &&
  (List.range ops.size).all (fun j=>(List.range ops.size).all fun m=>match qcp ops m with
    | some t=>!((looks ops j).contains t) || (m != j && (bef ops m j || bef ops j m))
    | none=>true)
structure DOK (ops:Array Oper) (ord:List Nat) (ch:List Nat):Prop where
  mem:∀ j,j∈ord↔j<ops.size
  len:ord.length=ops.size
  pw:ord.Pairwise (fun a b=>bef ops b a=false∧a≠b∧(a∈ch→b∈ch∨bef ops a b=true)∧(a∈ch→b∈ch→bef ops a b=true)∧b∉qc3 ops a)
  self:∀ j,j<ops.size→j∉qc3 ops j
  low:∀ j,j<ops.size→∀ k∈qc3 ops j,k<ops.size
  uniq:∀ j m t,j<ops.size→m<ops.size→qcp ops j=some t→qcp ops m=some t→j=m
  names:∀ j m t,j<ops.size→m<ops.size→qcp ops m=some t→t∈looks ops j→m≠j∧(bef ops m j=true∨bef ops j m=true)
theorem okD_spec {ops:Array Oper} {ord ch:List Nat} (h:okD ops ord ch=true):DOK ops ord ch:=by
  unfold okD at h
  simp only [Bool.and_eq_true] at h
  obtain⟨⟨⟨⟨⟨⟨h1,h2⟩,h3⟩,h4⟩,h5⟩,h6⟩,h7⟩:=h
  refine⟨fun j=>⟨fun hj=>?_,fun hj=>?_⟩,by simpa using h1,(qjg h4).imp fun {a b} hab=>?_,fun j hj=>?_,fun j hj k hk=>?_,fun j m t hj hm e1 e2=>?_,fun j m t hj hm e1 e2=>?_⟩
  · simpa using List.all_eq_true.1 h3 j hj
  · simpa using List.all_eq_true.1 h2 j (by simpa using hj)
  · simp only [Bool.and_eq_true,Bool.or_eq_true,Bool.not_eq_true',bne_iff_ne,List.contains_eq_mem,decide_eq_true_eq,decide_eq_false_iff_not] at hab
    obtain⟨⟨⟨⟨p1,p2⟩,p3⟩,p4⟩,p5⟩:=hab
    refine⟨p1,p2,fun ha=>?_,fun ha hb=>?_,p5⟩
    · rcases p3 with (p3|p3)|p3
      · exact absurd ha p3
      · exact .inl p3
      · exact .inr p3
    · rcases p4 with (p4|p4)|p4
      · exact absurd ha p4
      · exact absurd hb p4
      · exact p4
  · have:=List.all_eq_true.1 h5 j (by simpa using hj)
    simp only [Bool.and_eq_true] at this
    simpa using this.1
  · have:=List.all_eq_true.1 h5 j (by simpa using hj)
    simp only [Bool.and_eq_true] at this
    simpa using List.all_eq_true.1 this.2 k hk
  · have:=List.all_eq_true.1 (List.all_eq_true.1 h6 j (by simpa using hj)) m (by simpa using hm)
    simp only [Bool.or_eq_true,beq_iff_eq,bne_iff_ne] at this
    rcases this with (h|h)|h
    · exact h
    · rw [e1] at h;simp at h
    · rw [e1,e2] at h;exact absurd rfl h
  · have:=List.all_eq_true.1 (List.all_eq_true.1 h7 j (by simpa using hj)) m (by simpa using hm)
    rw [e1] at this
    simp only [Bool.or_eq_true,Bool.and_eq_true,Bool.not_eq_true',bne_iff_ne,List.contains_eq_mem,decide_eq_false_iff_not] at this
    rcases this with h|h
    · exact absurd e2 h
    · exact h
inductive PK where
  | skip
  | pur
  | quiet
  | alloc (id:Nat) (c:List Value) (e:TypeId) (mk:Nat→Value)
structure Pend where
  j:Nat
  o:Oper
  env:Nat→Value
  v:Value
  kind:PK
def Pend.vs (p:Pend):List Value:=p.o.op.operands.toList.map (ev ⟨p.env,[]⟩)
inductive DTrace (P:Program) (n:Nat) (ops:Array Oper) (ch:List Nat):List Nat→List Pend→St→AH→St→AH→Prop
  | nil {D:List Pend} {s:St} {H:AH}:DTrace P n ops ch [] D s H s H
  | skip {j:Nat} {rest:List Nat} {D:List Pend} {s s':St} {H H':AH} {o:Oper}:ops[j]? = some o→(∀ d,o.dst=some d→d<n)→j∉ch→qb8 ops s o=false →
      DTrace P n ops ch rest (⟨j,o,s.env,undef,.skip⟩ :: D) (s.put o.dst undef) H s' H'→DTrace P n ops ch (j :: rest) D s H s' H'
  | quiet {j:Nat} {rest:List Nat} {D:List Pend} {s s':St} {H H':AH} {o:Oper} {v:Value}:ops[j]? = some o→(∀ d,o.dst=some d→d<n)→j∉ch→qb8 ops s o=true →
      o.op.operands.toList.all okX=true→qfw P o (o.op.operands.toList.map (ev s)) H v H →
      DTrace P n ops ch rest (⟨j,o,s.env,v,.quiet⟩ :: D) (s.put o.dst v) H s' H'→DTrace P n ops ch (j :: rest) D s H s' H'
  | pur {j:Nat} {rest:List Nat} {D:List Pend} {s s':St} {H H':AH} {o:Oper} {v:Value}:ops[j]? = some o→(∀ d,o.dst=some d→d<n)→j∉ch→qb8 ops s o=true →
      o.op.operands.toList.all okX=true→(∀ H,qfw P o (o.op.operands.toList.map (ev s)) H v H) →
      DTrace P n ops ch rest (⟨j,o,s.env,v,.pur⟩ :: D) (s.put o.dst v) H s' H'→DTrace P n ops ch (j :: rest) D s H s' H'
  | alloc {j:Nat} {rest:List Nat} {D:List Pend} {s s':St} {H H':AH} {o:Oper} {c:List Value} {e:TypeId} {mk:Nat→Value}:ops[j]? = some o→(∀ d,o.dst=some d→d<n)→j∉ch→qb8 ops s o=true →
      o.op.operands.toList.all okX=true→NewSim P o (o.op.operands.toList.map (ev s)) c e mk →
      (∀ p∈D,p.kind=.quiet→qfw P p.o p.vs (H++[.cells c e none false]) p.v (H++[.cells c e none false])) →
      DTrace P n ops ch rest (⟨j,o,s.env,mk H.length,.alloc H.length c e mk⟩ :: D) (s.put o.dst (mk H.length)) (H++[.cells c e none false]) s' H'→DTrace P n ops ch (j :: rest) D s H s' H'
  | chainSkip {j:Nat} {rest:List Nat} {D:List Pend} {s s':St} {H H':AH} {o:Oper}:ops[j]? = some o→(∀ d,o.dst=some d→d<n)→j∈ch→qb8 ops s o=false →
      DTrace P n ops ch rest D (s.put o.dst undef) H s' H'→DTrace P n ops ch (j :: rest) D s H s' H'
  | chain {j:Nat} {rest:List Nat} {D:List Pend} {s s':St} {H H1 H':AH} {o:Oper} {v:Value}:ops[j]? = some o→(∀ d,o.dst=some d→d<n)→j∈ch→qb8 ops s o=true →
      o.op.operands.toList.all okX=true→qfw P o (o.op.operands.toList.map (ev s)) H v H1 →
      (∀ p∈D,p.kind=.quiet→bef ops p.j j=false→qfw P p.o p.vs H1 p.v H1) →
      DTrace P n ops ch rest D (s.put o.dst v) H1 s' H'→DTrace P n ops ch (j :: rest) D s H s' H'
structure DI (P:Program) (n:Nat) (ops:Array Oper) (ord ch:List Nat) (L:Nat→Bool) (s0:St) (H0:AH) (i0:Inj) (w0:World) (done rest:List Nat) (D D0:List Pend) (s:St) (H:AH) (i:Inj) (w:World) (a:Act):Prop where
  clo:∀ j k,L j=true→k∈qc3 ops j→L k=true
  spl:done++rest=ord
  unl:∀ j,j<ops.size→(L j=false↔(j∈rest∨∃ p∈D0,p.j=j))
  sub:∀ p∈D0,p∈D
  djs:∀ p∈D0,p.j∈done
  nod:(D0.map (·.j)).Nodup
  op:∀ p∈D0,ops[p.j]? = some p.o
  nch:∀ p∈D0,p.j∉ch
  dstb:∀ p∈D0,∀ d,p.o.dst=some d→d<n
  same:∀ t,(∀ m∈done,qcp ops m≠some t)→s.env t=s0.env t
  lateW:∀ p∈D0,∀ t∈p.o.looksAt ops,∀ m,qcp ops m=some t→bef ops p.j m=true→p.env t=s0.env t
  noW:∀ p∈D0,∀ t∈p.o.looksAt ops,(∀ m,m<ops.size→qcp ops m≠some t)→p.env t=s0.env t
  earlyW:∀ p∈D0,∀ t∈p.o.looksAt ops,∀ m,qcp ops m=some t→bef ops m p.j=true→s.env t=p.env t
  val:∀ p∈D0,∀ t,p.o.dst=some t→s.env t=p.v
  envD:∀ p∈D0,∀ t,p.o.dst=some t→VR i (s0.env t) (a.tmps.getD t undef)
  envN:∀ t,(∀ p∈D0,p.o.dst≠some t)→VR i (s.env t) (a.tmps.getD t undef)
  size:a.tmps.size=n
  ds:DsR P i s.ds a.defers
  rel:Rel i H w
  ext:Ext i0 i H0 H w0 w
  quiet:∀ p∈D0,p.kind=.quiet→qfw P p.o p.vs H p.v H
  pur:∀ p∈D0,p.kind=.pur→∀ H,qfw P p.o p.vs H p.v H
  okx:∀ p∈D0,p.kind≠.skip→p.o.op.operands.toList.all okX=true
  want:∀ p∈D0,(p.kind=.skip→qb8 ops ⟨p.env,[]⟩ p.o=false∧p.v=undef)∧(p.kind≠.skip→qb8 ops ⟨p.env,[]⟩ p.o=true)
  alloc:∀ p∈D0,∀ id c e mk,p.kind=.alloc id c e mk→i id=none∧H[id]? = some (.cells c e none false)∧NewSim P p.o p.vs c e mk∧H0.length≤id∧p.v=mk id
  ids:∀ p∈D0,∀ q∈D0,∀ id c e mk c' e' mk',p.kind=.alloc id c e mk→q.kind=.alloc id c' e' mk'→p.j=q.j
theorem qgs {ops:Array Oper} {s s':St} {o:Oper} (h:∀ j want d,o.guard=some (j,want)→(ops[j]?).bind (·.dst)=some d→s.env d=s'.env d):qb8 ops s o=qb8 ops s' o:=by
  unfold qb8
  cases hg:o.guard with
  | none=>rfl
  | some g =>
    obtain⟨j,want⟩:=g
    simp only
    cases hd:(ops[j]?).bind (·.dst) with
    | none=>rfl
    | some d=>simp only;rw [h j want d hg hd]
theorem qdp {s:St} {dst:Option Tmp} {v:Value} {t:Nat} (h:dst≠some t):(s.put dst v).env t=s.env t:=by
  cases dst with
  | none=>rfl
  | some d =>
    simp only [St.put]
    rw [if_neg (fun e=>h (by rw [e]))]
theorem put_same {s:St} {v:Value} {t:Nat}:(s.put (some t) v).env t=v:=by simp [St.put]
theorem put_ds {s:St} {dst:Option Tmp} {v:Value}:(s.put dst v).ds=s.ds:=by cases dst<;>rfl
section
variable {P:Program} {n:Nat} {ops:Array Oper} {ord ch:List Nat} {L:Nat→Bool} {s0:St} {H0:AH} {i0:Inj} {w0:World}
theorem DI.advance (hk:DOK ops ord ch) {done rest:List Nat} {D D0:List Pend} {s:St} {H:AH} {i:Inj} {w:World} {a:Act} {j:Nat}
    (I:DI P n ops ord ch L s0 H0 i0 w0 done (j :: rest) D D0 s H i w a) {s':St} {H':AH} (T:DTrace P n ops ch (j :: rest) D s H s' H') (hj:j∉ch) :
    ∃ p D1 s1 H1,p.j=j∧DI P n ops ord ch L s0 H0 i0 w0 (done++[j]) rest D1 (p :: D0) s1 H1 i w a∧DTrace P n ops ch rest D1 s1 H1 s' H':=by
  have hjN:j<ops.size:=(hk.mem j).1 (by rw [←I.spl];simp)
  have hpw:=hk.pw
  rw [←I.spl] at hpw
  have hdone:∀ m∈done,bef ops j m=false∧m≠j:=fun m hm=>by
    have:=(List.pairwise_append.1 hpw).2.2 m hm j (by simp)
    exact⟨this.1,this.2.1⟩
  have hjnd:∀ q∈D0,q.j≠j:=fun q hq=>(hdone q.j (I.djs q hq)).2
  -- what is common to the three kinds
  have common:∀ (o:Oper) (v:Value) (kd:PK) (H1:AH),ops[j]? = some o→(∀ d,o.dst=some d→d<n)→Rel i H1 w→Ext i0 i H0 H1 w0 w →
      (∀ p∈D0,p.kind=.quiet→qfw P p.o p.vs H1 p.v H1)→(∀ p∈D0,∀ id c e mk,p.kind=.alloc id c e mk→H1[id]? = some (.cells c e none false)) →
      (kd=.quiet→qfw P o (o.op.operands.toList.map (ev s)) H1 v H1)→(kd=.pur→∀ H,qfw P o (o.op.operands.toList.map (ev s)) H v H)→(kd≠.skip→o.op.operands.toList.all okX=true)→((kd=.skip→qb8 ops s o=false∧v=undef)∧(kd≠.skip→qb8 ops s o=true)) →
      (∀ id c e mk,kd=.alloc id c e mk→i id=none∧H1[id]? = some (.cells c e none false)∧NewSim P o (o.op.operands.toList.map (ev s)) c e mk∧H0.length≤id∧v=mk id∧∀ p∈D0,∀ c' e' mk',p.kind≠.alloc id c' e' mk') →
      DI P n ops ord ch L s0 H0 i0 w0 (done++[j]) rest (⟨j,o,s.env,v,kd⟩ :: D) (⟨j,o,s.env,v,kd⟩ :: D0) (s.put o.dst v) H1 i w a:=by
    intro o v kd H1 ho hd hrel hext hq hal hkq hkp hkx hkw hka
    have hdst:qcp ops j=o.dst:=by simp [qcp,ho]
    have hlook:looks ops j=o.looksAt ops:=by simp [looks,ho]
    have nodst:∀ q∈D0,∀ t,o.dst=some t→q.o.dst≠some t:=by
      intro q hq t h1 h2
      have hqN:q.j<ops.size:=(hk.mem q.j).1 (by rw [←I.spl];simp [I.djs q hq])
      exact hjnd q hq (hk.uniq q.j j t hqN hjN (by simp [qcp,I.op q hq,h2]) (by rw [hdst,h1]))
    refine⟨I.clo,by rw [←I.spl];simp,fun m hm=>?_,fun p hp=>?_,fun p hp=>?_,?_,fun p hp=>?_,fun p hp=>?_,fun p hp=>?_,fun t ht=>?_,fun p hp t ht m hm hb=>?_,fun p hp t ht hno=>?_,fun p hp t ht m hm hb=>?_,fun p hp t ht=>?_,fun p hp t ht=>?_,fun t ht=>?_,I.size,by rw [put_ds];exact I.ds,hrel,hext,fun p hp hpk=>?_,fun p hp hpk=>?_,fun p hp hpk=>?_,fun p hp=>?_,fun p hp id c e mk hpk=>?_,fun p hp q hq' id c e mk c' e' mk' h1 h2=>?_⟩
    · rw [I.unl m hm]
      simp only [List.mem_cons,exists_eq_or_imp]
      constructor
      · rintro ((h|h)|h)
        · exact .inr (.inl h.symm)
        · exact .inl h
        · exact .inr (.inr h)
      · rintro (h|h|h)
        · exact .inl (.inr h)
        · exact .inl (.inl h.symm)
        · exact .inr h
    · rcases List.mem_cons.1 hp with rfl|hp
      · simp
      · exact List.mem_cons_of_mem _ (I.sub p hp)
    · rcases List.mem_cons.1 hp with rfl|hp
      · simp
      · simp [I.djs p hp]
    · simp only [List.map_cons,List.nodup_cons,List.mem_map,not_exists,not_and]
      exact⟨fun q hq=>hjnd q hq,I.nod⟩
    · rcases List.mem_cons.1 hp with rfl|hp
      · exact ho
      · exact I.op p hp
    · rcases List.mem_cons.1 hp with rfl|hp
      · exact hj
      · exact I.nch p hp
    · rcases List.mem_cons.1 hp with rfl|hp
      · exact hd
      · exact I.dstb p hp
    · have hne:o.dst≠some t:=by rw [←hdst];exact ht j (by simp)
      rw [qdp hne]
      exact I.same t (fun m hm=>ht m (by simp [hm]))
    · rcases List.mem_cons.1 hp with rfl|hp
      · refine I.same t (fun m' hm' h'=>?_)
        have hm'N:m'<ops.size:=(hk.mem m').1 (by rw [←I.spl];simp [hm'])
        have hmN:m<ops.size:=by
          rcases Nat.lt_or_ge m ops.size with h|h
          · exact h
          · simp [qcp,Array.getElem?_eq_none h] at hm
        have:=hk.uniq m m' t hmN hm'N hm h'
        subst this
        have:=(hdone m hm').1
        simp only at hb
        rw [hb] at this;cases this
      · exact I.lateW p hp t ht m hm hb
    · rcases List.mem_cons.1 hp with rfl|hp
      · exact I.same t (fun m hm=>hno m ((hk.mem m).1 (by rw [←I.spl];simp [hm])))
      · exact I.noW p hp t ht hno
    · rcases List.mem_cons.1 hp with rfl|hp
      · refine qdp (fun h=>?_)
        have hmN:m<ops.size:=by
          rcases Nat.lt_or_ge m ops.size with h|h
          · exact h
          · simp [qcp,Array.getElem?_eq_none h] at hm
        have:=(hk.names j j t hjN hjN (by rw [hdst,h]) (by rw [hlook];exact ht)).1
        exact this rfl
      · have e1:=I.earlyW p hp t ht m hm hb
        rw [qdp (fun h=>?_)]
        · exact e1
        · have hmN:m<ops.size:=by
            rcases Nat.lt_or_ge m ops.size with h|h
            · exact h
            · simp [qcp,Array.getElem?_eq_none h] at hm
          have:=hk.uniq j m t hjN hmN (by rw [hdst,h]) hm
          subst this
          have:=(hdone p.j (I.djs p hp)).1
          rw [hb] at this;cases this
    · rcases List.mem_cons.1 hp with rfl|hp
      · simp only at ht
        rw [ht,put_same]
      · rw [qdp (fun h=>nodst p hp t h ht)]
        exact I.val p hp t ht
    · rcases List.mem_cons.1 hp with rfl|hp
      · simp only at ht
        have hno:∀ p∈D0,p.o.dst≠some t:=fun p hp=>nodst p hp t ht
        have:=I.envN t hno
        rw [I.same t (fun m hm h'=>?_)] at this
        · exact this
        · have hmN:m<ops.size:=(hk.mem m).1 (by rw [←I.spl];simp [hm])
          exact (hdone m hm).2 (hk.uniq m j t hmN hjN h' (by rw [hdst,ht]))
      · exact I.envD p hp t ht
    · rw [qdp (show o.dst≠some t from ht ⟨j,o,s.env,v,kd⟩ (by simp))]
      exact I.envN t (fun p hp=>ht p (by simp [hp]))
    · rcases List.mem_cons.1 hp with rfl|hp
      · exact hkq hpk
      · exact hq p hp hpk
    · rcases List.mem_cons.1 hp with rfl|hp
      · exact hkp hpk
      · exact I.pur p hp hpk
    · rcases List.mem_cons.1 hp with rfl|hp
      · exact hkx hpk
      · exact I.okx p hp hpk
    · rcases List.mem_cons.1 hp with rfl|hp
      · exact hkw
      · exact I.want p hp
    · rcases List.mem_cons.1 hp with rfl|hp
      · obtain⟨q1,q2,q3,q4,q5,_⟩:=hka id c e mk hpk
        exact⟨q1,q2,q3,q4,q5⟩
      · obtain⟨q1,_,q3,q4,q5⟩:=I.alloc p hp id c e mk hpk
        exact⟨q1,hal p hp id c e mk hpk,q3,q4,q5⟩
    · rcases List.mem_cons.1 hp with rfl|hp
      · rcases List.mem_cons.1 hq' with rfl|hq'
        · rfl
        · exact absurd h2 ((hka id c e mk h1).2.2.2.2.2 q hq' c' e' mk')
      · rcases List.mem_cons.1 hq' with rfl|hq'
        · exact absurd h1 ((hka id c' e' mk' h2).2.2.2.2.2 p hp c e mk)
        · exact I.ids p hp q hq' id c e mk c' e' mk' h1 h2
  cases T with
  | skip h1 h2 h3 h4 h5 =>
    exact⟨_,_,_,_,rfl,common _ _ _ H h1 h2 I.rel I.ext I.quiet (fun p hp id c e mk hpk=>(I.alloc p hp id c e mk hpk).2.1) (fun h=>by cases h) (fun h=>by cases h) (fun h=>absurd rfl h) ⟨fun _=>⟨h4,rfl⟩,fun h=>absurd rfl h⟩ (fun id c e mk h=>by cases h),h5⟩
  | quiet h1 h2 h3 h4 h5 h6 h7 =>
    exact⟨_,_,_,_,rfl,common _ _ _ H h1 h2 I.rel I.ext I.quiet (fun p hp id c e mk hpk=>(I.alloc p hp id c e mk hpk).2.1) (fun _=>h6) (fun h=>by cases h) (fun _=>h5) ⟨(fun h=>by cases h),fun _=>h4⟩ (fun id c e mk h=>by cases h),h7⟩
  | pur h1 h2 h3 h4 h5 h6 h7 =>
    exact⟨_,_,_,_,rfl,common _ _ _ H h1 h2 I.rel I.ext I.quiet (fun p hp id c e mk hpk=>(I.alloc p hp id c e mk hpk).2.1) (fun h=>by cases h) (fun _=>h6) (fun _=>h5) ⟨(fun h=>by cases h),fun _=>h4⟩ (fun id c e mk h=>by cases h),h7⟩
  | @alloc _ _ _ _ _ _ _ o c e mk h1 h2 h3 h4 h5 h6 h7 h8 =>
    have hlt:∀ p∈D0,∀ id c e mk,p.kind=.alloc id c e mk→id<H.length:=fun p hp id c e mk hpk=>(List.getElem?_eq_some_iff.1 (I.alloc p hp id c e mk hpk).2.1).1
    refine⟨_,_,_,_,rfl,common o _ _ (H++[.cells c e none false]) h1 h2 (I.rel.grow _) ?_ (fun p hp hpk=>h7 p (I.sub p hp) hpk) (fun p hp id c' e' mk' hpk=>?_) (fun h=>by cases h) (fun h=>by cases h) (fun _=>h5) ⟨(fun h=>by cases h),fun _=>h4⟩ (fun id c' e' mk' h=>?_),h8⟩
    · have x:=I.ext
      refine⟨x.dom,x.le,x.os,x.tape,x.output,x.size,by have:=x.len;simp;omega,fun b x' hb hx ho=>?_,x.frame,fun b hb hi=>?_,x.fresh⟩
      · rw [List.getElem?_append_left (Nat.lt_of_lt_of_le hb x.len)] at hx;exact x.own b x' hb hx ho
      · rw [List.getElem?_append_left (Nat.lt_of_lt_of_le hb x.len)];exact x.aframe b hb hi
    · rw [List.getElem?_append_left (hlt p hp id c' e' mk' hpk)];exact (I.alloc p hp id c' e' mk' hpk).2.1
    · cases h
      exact⟨I.rel.none_at,by simp,h6,I.ext.len,rfl,fun p hp c' e' mk' hpk=>Nat.lt_irrefl _ (hlt p hp _ c' e' mk' hpk)⟩
  | chainSkip h1 h2 h3=>exact absurd h3 hj
  | chain h1 h2 h3=>exact absurd h3 hj
end
end Go.Sim

namespace Go.Sim
open Go
theorem qfb {a:Act} {dst:Option Tmp} {v:Value} {t:Nat} (h:dst≠some t):(a.put dst v).tmps.getD t undef=a.tmps.getD t undef:=by
  cases dst with
  | none=>rfl
  | some d =>
    have hne:d≠t:=fun e=>h (by rw [e])
    simp [Act.put,Array.getElem?_setIfInBounds_ne hne]
theorem qns {a:Act} {v:Value} {t:Nat} (h:t<a.tmps.size):(a.put (some t) v).tmps.getD t undef=v:=by
  simp [Act.put,h]
theorem qnr {a:Act} {dst:Option Tmp} {v:Value}:(a.put dst v).tmps.size=a.tmps.size:=by cases dst<;>simp [Act.put]
theorem qjj {a:Act} {dst:Option Tmp} {v:Value}:(a.put dst v).defers=a.defers:=by cases dst<;>rfl
open Classical in
noncomputable def qms (D0:List Pend) (s0 s:St) (t:Nat):Value:=if ∃ q∈D0,q.o.dst=some t then s0.env t else s.env t
section
variable {P:Program} {n:Nat} {ops:Array Oper} {ord ch:List Nat} {L:Nat→Bool} {s0:St} {H0:AH} {i0:Inj} {w0:World}
variable {done rest:List Nat} {D D0:List Pend} {s:St} {H:AH} {i:Inj} {w:World} {a:Act}
theorem DI.envV (I:DI P n ops ord ch L s0 H0 i0 w0 done rest D D0 s H i w a) (t:Nat):VR i (qms D0 s0 s t) (a.tmps.getD t undef):=by
  unfold qms
  split
  · rename_i h
    obtain⟨q,hq,e⟩:=h
    exact I.envD q hq t e
  · rename_i h
    exact I.envN t (fun p hp e=>h ⟨p,hp,e⟩)
open Classical in
theorem DI.frame (I:DI P n ops ord ch L s0 H0 i0 w0 done rest D D0 s H i w a) (T:List Tmp) (env:Nat→Value) (h:∀ t∈T,env t=qms D0 s0 s t) :
    ∃ sx:St,StR P i n sx a∧∀ t∈T,sx.env t=env t:=by
  refine⟨⟨fun t=>if t∈T then env t else qms D0 s0 s t,s.ds⟩,⟨I.size,fun t=>?_,I.ds⟩,fun t ht=>by simp [ht]⟩
  by_cases ht:t∈T
  · simp only [ht,if_true,h t ht];exact I.envV t
  · simp only [ht,if_false];exact I.envV t
theorem dst_lt {m:Nat} {t:Tmp} (h:qcp ops m=some t):m<ops.size:=by
  rcases Nat.lt_or_ge m ops.size with h1|h1
  · exact h1
  · simp [qcp,Array.getElem?_eq_none h1] at h
theorem evs_congr {sx sy:St} {ops:Array Oper} {o:Oper} (h:∀ t∈o.looksAt ops,sx.env t=sy.env t):o.op.operands.toList.map (ev sx)=o.op.operands.toList.map (ev sy):=by
  refine List.map_congr_left fun x hx=>?_
  cases x with
  | tmp t =>
    refine h t ?_
    unfold Oper.looksAt
    rw [List.mem_append,List.mem_filterMap]
    exact .inl ⟨_,hx,rfl⟩
  | _=>rfl
theorem qjs {ops:Array Oper} {o:Oper} {j:Nat} {want:Bool} {d:Tmp} (hg:o.guard=some (j,want)) (hd:(ops[j]?).bind (·.dst)=some d):d∈o.looksAt ops:=by
  unfold Oper.looksAt
  rw [List.mem_append]
  right
  simp [hg,hd]
theorem DI.nodup (hk:DOK ops ord ch):ord.Nodup:=hk.pw.imp (fun h=>h.2.1)
theorem DI.not_both (hk:DOK ops ord ch) (I:DI P n ops ord ch L s0 H0 i0 w0 done rest D D0 s H i w a) {m:Nat} (h1:m∈done) (h2:m∈rest):False:=by
  have:=DI.nodup hk
  rw [←I.spl] at this
  exact (List.nodup_append.1 this).2.2 m h1 m h2 rfl
theorem DI.sees (hk:DOK ops ord ch) (I:DI P n ops ord ch L s0 H0 i0 w0 done rest D D0 s H i w a) {p:Pend} (hp:p∈D0) (hr:∀ k∈qc3 ops p.j,L k=true):∀ t∈p.o.looksAt ops,p.env t=qms D0 s0 s t:=by
  intro t ht
  have hpN:p.j<ops.size:=(hk.mem p.j).1 (by rw [←I.spl];simp [I.djs p hp])
  have hlook:looks ops p.j=p.o.looksAt ops:=by simp [looks,I.op p hp]
  unfold qms
  by_cases hw:∃ m,qcp ops m=some t
  · obtain⟨m,hm⟩:=hw
    have hmN:=dst_lt hm
    obtain⟨hne,hb⟩:=hk.names p.j m t hpN hmN hm (by rw [hlook];exact ht)
    have hq:∀ q∈D0,q.o.dst=some t→q.j=m:=fun q hq e=>by
      have hqN:q.j<ops.size:=(hk.mem q.j).1 (by rw [←I.spl];simp [I.djs q hq])
      exact hk.uniq q.j m t hqN hmN (by simp [qcp,I.op q hq,e]) hm
    rcases hb with hb|hb
    · have hLm:=qfg I.clo _ _ _ hb hr
      rw [if_neg (fun ⟨q,hq1,e⟩=>by
        have h1:=hq q hq1 e
        have:=(I.unl m hmN).2 (.inr ⟨q,hq1,h1⟩)
        rw [hLm] at this;cases this)]
      exact (I.earlyW p hp t ht m hm hb).symm
    · rw [I.lateW p hp t ht m hm hb]
      split
      · rfl
      · rename_i hno
        have hLm:L m=false:=by
          cases h:L m with
          | false=>rfl
          | true =>
            have h1:=qfg I.clo _ _ _ hb (fun k hk'=>I.clo m k h hk')
            have h2:=(I.unl p.j hpN).2 (.inr ⟨p,hp,rfl⟩)
            rw [h1] at h2;cases h2
        have hmr:m∈rest:=by
          rcases (I.unl m hmN).1 hLm with h|⟨q,hq1,rfl⟩
          · exact h
          · exact absurd ⟨q,hq1,by simpa [qcp,I.op q hq1] using hm⟩ hno
        refine (I.same t (fun m' hm' e=>?_)).symm
        have:=hk.uniq m' m t (dst_lt e) hmN e hm
        subst this
        exact I.not_both hk hm' hmr
  · have hno:∀ m,qcp ops m≠some t:=fun m e=>hw ⟨m,e⟩
    rw [if_neg (fun ⟨q,hq,e⟩=>hno q.j (by simp [qcp,I.op q hq,e])),I.noW p hp t ht (fun m _=>hno m)]
    exact (I.same t (fun m _=>hno m)).symm
theorem DI.seesCh (hk:DOK ops ord ch) {j:Nat} (I:DI P n ops ord ch L s0 H0 i0 w0 done (j :: rest) D D0 s H i w a) {o:Oper} (ho:ops[j]? = some o) (hr:∀ k∈qc3 ops j,L k=true):∀ t∈o.looksAt ops,s.env t=qms D0 s0 s t:=by
  intro t ht
  have hjN:j<ops.size:=(hk.mem j).1 (by rw [←I.spl];simp)
  unfold qms
  split
  · rename_i h
    obtain⟨q,hq,e⟩:=h
    have hqN:q.j<ops.size:=(hk.mem q.j).1 (by rw [←I.spl];simp [I.djs q hq])
    have hdst:qcp ops q.j=some t:=by simp [qcp,I.op q hq,e]
    obtain⟨hne,hb⟩:=hk.names j q.j t hjN hqN hdst (by simpa [looks,ho] using ht)
    have hunl:=(I.unl q.j hqN).2 (.inr ⟨q,hq,rfl⟩)
    rcases hb with hb|hb
    · have:=qfg I.clo _ _ _ hb hr
      rw [this] at hunl;cases hunl
    · have hpw:=hk.pw
      rw [←I.spl] at hpw
      have:=((List.pairwise_append.1 hpw).2.2 q.j (I.djs q hq) j (by simp)).1
      rw [hb] at this;cases this
  · rfl
theorem DI.after (hk:DOK ops ord ch) (I:DI P n ops ord ch L s0 H0 i0 w0 done rest D D0 s H i w a) {p:Pend} (hp:p∈D0) (hr:∀ k∈qc3 ops p.j,L k=true) {i':Inj} {w':World} {v':Value} (hle:i.le i') (hrel:Rel i' H w') (hext:Ext i0 i' H0 H w0 w') (hv:VR i' p.v v')
    (hal:∀ q∈D0,q.j≠p.j→∀ id c e mk,q.kind=.alloc id c e mk→i' id=none) :
    DI P n ops ord ch (fun j=>L j || j == p.j) s0 H0 i0 w0 done rest D (D0.filter fun q=>q.j != p.j) s H i' w' (a.put p.o.dst v'):=by
  have hpN:p.j<ops.size:=(hk.mem p.j).1 (by rw [←I.spl];simp [I.djs p hp])
  have hmem:∀ q,q∈D0.filter (fun q=>q.j != p.j)↔q∈D0∧q.j≠p.j:=by intro q;simp
  have hdst:qcp ops p.j=p.o.dst:=by simp [qcp,I.op p hp]
  have other:∀ q∈D0,q.j≠p.j→∀ t,q.o.dst=some t→p.o.dst≠some t:=fun q hq hne t h1 h2=>by
    have hqN:q.j<ops.size:=(hk.mem q.j).1 (by rw [←I.spl];simp [I.djs q hq])
    exact hne (hk.uniq q.j p.j t hqN hpN (by simp [qcp,I.op q hq,h1]) (by rw [hdst,h2]))
  refine⟨fun j k hj hjk=>?_,I.spl,fun j hj=>?_,fun q hq=>I.sub q ((hmem q).1 hq).1,fun q hq=>I.djs q ((hmem q).1 hq).1,?_,fun q hq=>I.op q ((hmem q).1 hq).1,fun q hq=>I.nch q ((hmem q).1 hq).1,fun q hq=>I.dstb q ((hmem q).1 hq).1,I.same,fun q hq=>I.lateW q ((hmem q).1 hq).1,fun q hq=>I.noW q ((hmem q).1 hq).1,fun q hq=>I.earlyW q ((hmem q).1 hq).1,fun q hq=>I.val q ((hmem q).1 hq).1,fun q hq t ht=>?_,fun t ht=>?_,by rw [qnr];exact I.size,by rw [qjj];exact I.ds.mono hle,hrel,hext,fun q hq=>I.quiet q ((hmem q).1 hq).1,fun q hq=>I.pur q ((hmem q).1 hq).1,fun q hq=>I.okx q ((hmem q).1 hq).1,fun q hq=>I.want q ((hmem q).1 hq).1,fun q hq id c e mk hk'=>?_,fun q hq q2 hq2=>I.ids q ((hmem q).1 hq).1 q2 ((hmem q2).1 hq2).1⟩
  · simp only [Bool.or_eq_true,beq_iff_eq] at hj ⊢
    rcases hj with hj|rfl
    · exact .inl (I.clo j k hj hjk)
    · exact .inl (hr k hjk)
  · simp only [Bool.or_eq_false_iff,beq_eq_false_iff_ne,I.unl j hj]
    constructor
    · rintro⟨h|⟨q,hq,rfl⟩,hne⟩
      · exact .inl h
      · exact .inr ⟨q,(hmem q).2 ⟨hq,hne⟩,rfl⟩
    · rintro (h|⟨q,hq,rfl⟩)
      · exact⟨.inl h,fun e=>by subst e;exact I.not_both hk (I.djs p hp) h⟩
      · exact⟨.inr ⟨q,((hmem q).1 hq).1,rfl⟩,((hmem q).1 hq).2⟩
  · exact List.Nodup.sublist (List.Sublist.map _ List.filter_sublist) I.nod
  · obtain⟨h1,h2⟩:=(hmem q).1 hq
    rw [qfb (other q h1 h2 t ht)]
    exact (I.envD q h1 t ht).mono hle
  · by_cases hpt:p.o.dst=some t
    · rw [hpt,qns (by rw [I.size];exact I.dstb p hp t hpt),I.val p hp t hpt]
      exact hv
    · rw [qfb hpt]
      refine (I.envN t (fun q hq e=>?_)).mono hle
      by_cases hqp:q.j=p.j
      · have:q.o=p.o:=by
          have h1:=I.op q hq
          rw [hqp,I.op p hp] at h1
          simpa using h1.symm
        exact hpt (by rw [←this];exact e)
      · exact ht q ((hmem q).2 ⟨hq,hqp⟩) e
  · obtain⟨h1,h2⟩:=(hmem q).1 hq
    obtain⟨_,g2,g3,g4,g5⟩:=I.alloc q h1 id c e mk hk'
    exact⟨hal q h1 h2 id c e mk hk',g2,g3,g4,g5⟩
theorem DI.exec (hk:DOK ops ord ch) (I:DI P n ops ord ch L s0 H0 i0 w0 done rest D D0 s H i w a) {p:Pend} (hp:p∈D0) (hr:∀ k∈qc3 ops p.j,L k=true) (b:Frame) (l:List Nat) (k:List Item) (cs:List Frame) :
    ∃ i' w' a',DI P n ops ord ch (fun j=>L j || j == p.j) s0 H0 i0 w0 done rest D (D0.filter fun q=>q.j != p.j) s H i' w' a' ∧
      Steps P (lone (b.atR a (.inRegion ops (p.j :: l) :: k)) cs w) (lone (b.atR a' (.inRegion ops l :: k)) cs w'):=by
  obtain⟨sx,hsx,hse⟩:=I.frame (p.o.looksAt ops) p.env (I.sees hk hp hr)
  have hop:=I.op p hp
  have hwant:Region.wanted p.o (yielded ops a.tmps)=qb8 ops ⟨p.env,[]⟩ p.o:=by
    rw [qf9 hsx.env]
    exact qgs fun j want d hg hd=>hse d (qjs hg hd)
  have hvs:p.o.op.operands.toList.map (ev sx)=p.vs:=evs_congr (sy:=⟨p.env,[]⟩) hse
  by_cases hsk:p.kind=.skip
  · obtain⟨h1,h2⟩:=(I.want p hp).1 hsk
    refine⟨i,w,_,I.after hk hp hr (v':=undef) i.le_refl I.rel I.ext (by rw [h2];exact VR.undef i) (fun q hq _ id c e mk h=>(I.alloc q hq id c e mk h).1),.one ?_⟩
    have:=stepR_op_skip (P:=P) (b:=b) (a:=a) (k:=k) (cs:=cs) (w:=w) (ops:=ops) (i:=p.j) (rest:=l) (by rw [hop];simp [hwant,h1])
    rw [hop] at this
    exact this
  · have hw1:=(I.want p hp).2 hsk
    have hrels:=evs_rel hsx (I.okx p hp hsk)
    rw [hvs] at hrels
    cases hkd:p.kind with
    | skip=>exact absurd hkd hsk
    | quiet =>
      obtain⟨i',w',v',e1,g1,hv1,p1⟩:=I.quiet p hp hkd i w _ I.rel hrels b a ops p.j l k cs hop (by rw [hwant,hw1]) rfl
      refine⟨i',w',_,I.after hk hp hr e1.le g1 (I.ext.trans e1) hv1 (fun q hq _ id c e mk h=>?_),p1⟩
      obtain⟨q1,q2,_⟩:=I.alloc q hq id c e mk h
      have hlt:=(List.getElem?_eq_some_iff.1 q2).1
      cases hi:i' id with
      | none=>rfl
      | some M =>
        rcases e1.fresh id M hi with h1|⟨h1,_⟩
        · rw [q1] at h1;cases h1
        · omega
    | pur =>
      obtain⟨i',w',v',e1,g1,hv1,p1⟩:=I.pur p hp hkd H i w _ I.rel hrels b a ops p.j l k cs hop (by rw [hwant,hw1]) rfl
      refine⟨i',w',_,I.after hk hp hr e1.le g1 (I.ext.trans e1) hv1 (fun q hq _ id c e mk h=>?_),p1⟩
      obtain⟨q1,q2,_⟩:=I.alloc q hq id c e mk h
      have hlt:=(List.getElem?_eq_some_iff.1 q2).1
      cases hi:i' id with
      | none=>rfl
      | some M =>
        rcases e1.fresh id M hi with h1|⟨h1,_⟩
        · rw [q1] at h1;cases h1
        · omega
    | alloc id c e mk =>
      obtain⟨q1,q2,q3,q4,q5⟩:=I.alloc p hp id c e mk hkd
      obtain⟨c',hc1,hc2⟩:=q3.2.2 i w _ hrels a.eval rfl
      have hlt:=(List.getElem?_eq_some_iff.1 q2).1
      have x:=I.ext
      refine⟨i.upd id ⟨w.heap.size,0,0,0⟩,w.alloc (.cells c'.toArray e),_,I.after hk hp hr (v':=mk w.heap.size) (Inj.le_upd q1) (rel_new I.rel id _ _ 0 0 q1 q2 (blkR_cells (hc1.mono (Inj.le_upd q1)) e w 0)) ?_ ?_ (fun q hq hne id' c2 e2 mk2 h=>?_),.one (step_lone_go ?_)⟩
      · refine⟨x.dom,Inj.le_trans x.le (Inj.le_upd q1),x.os,x.tape,x.output,by have:=x.size;simp;omega,x.len,x.own,fun m hm hno=>(heap_alloc_old w _ m (Nat.lt_of_lt_of_le hm x.size)).trans (x.frame m hm hno),x.aframe,fun m M hm=>?_⟩
        by_cases hmi:m=id
        · subst hmi
          simp [Inj.upd] at hm
          subst hm
          exact .inr ⟨q4,.inl x.size⟩
        · simp [Inj.upd,hmi] at hm
          exact x.fresh m M hm
      · rw [q5];exact q3.1 _ _ _ (Inj.upd_same i _ _)
      · have hne2:id'≠id:=fun he=>by
          subst he
          exact hne (I.ids q hq p hp id' c2 e2 mk2 c e mk h hkd)
        simp [Inj.upd,hne2,(I.alloc q hq id' c2 e2 mk2 h).1]
      · have hg:=stepGR_op (P:=P) (b:=b) (k:=k) (cs:=cs) (w:=w) (rest:=l) hop (by rw [hwant,hw1]:Region.wanted p.o (yielded ops a.tmps)=true)
        have hfin:∀ u,(b.atR a (.inRegion ops (p.j :: l) :: k)).finish u=b.atR (a.put p.o.dst u) (.inRegion ops l :: k):=by
          intro u;rw [Frame.finish_atR,hop];rfl
        rw [hg,Oper.semAt_eq _ _ _ q3.2.1,←hfin]
        simp [stepG.apply,hc2]
theorem DI.chain (hk:DOK ops ord ch) {j:Nat} (I:DI P n ops ord ch L s0 H0 i0 w0 done (j :: rest) D D0 s H i w a) (hj:j∈ch) (hr:∀ k∈qc3 ops j,L k=true) {s':St} {H':AH} (T:DTrace P n ops ch (j :: rest) D s H s' H')
    (b:Frame) (l:List Nat) (k:List Item) (cs:List Frame) :
    ∃ i' w' a' s1 H1,DI P n ops ord ch (fun m=>L m || m == j) s0 H0 i0 w0 (done++[j]) rest D D0 s1 H1 i' w' a'∧DTrace P n ops ch rest D s1 H1 s' H' ∧
      Steps P (lone (b.atR a (.inRegion ops (j :: l) :: k)) cs w) (lone (b.atR a' (.inRegion ops l :: k)) cs w'):=by
  have hjN:j<ops.size:=(hk.mem j).1 (by rw [←I.spl];simp)
  have hpw:=hk.pw
  rw [←I.spl] at hpw
  have hdone:∀ m∈done,bef ops j m=false∧m≠j:=fun m hm=>by
    have:=(List.pairwise_append.1 hpw).2.2 m hm j (by simp)
    exact⟨this.1,this.2.1⟩
  have hjr:j∉rest:=fun h=>by
    have:=(List.pairwise_append.1 hpw).2.1
    exact ((List.pairwise_cons.1 this).1 j h).2.1 rfl
  have common:∀ (o:Oper) (v v':Value) (H1:AH) (i':Inj) (w':World),ops[j]? = some o→(∀ d,o.dst=some d→d<n)→Ext i i' H H1 w w'→Rel i' H1 w'→VR i' v v' →
      (∀ p∈D0,p.kind=.quiet→qfw P p.o p.vs H1 p.v H1) →
      DI P n ops ord ch (fun m=>L m || m == j) s0 H0 i0 w0 (done++[j]) rest D D0 (s.put o.dst v) H1 i' w' (a.put o.dst v'):=by
    intro o v v' H1 i' w' ho hd hext hrel hv hq
    have hdst:qcp ops j=o.dst:=by simp [qcp,ho]
    have nodst:∀ q∈D0,∀ t,o.dst=some t→q.o.dst≠some t:=by
      intro q hq t h1 h2
      have hqN:q.j<ops.size:=(hk.mem q.j).1 (by rw [←I.spl];simp [I.djs q hq])
      exact (hdone q.j (I.djs q hq)).2 (hk.uniq q.j j t hqN hjN (by simp [qcp,I.op q hq,h2]) (by rw [hdst,h1]))
    refine⟨fun m m' hm hmm=>?_,by rw [←I.spl];simp,fun m hm=>?_,I.sub,fun q hq=>by simp [I.djs q hq],I.nod,I.op,I.nch,I.dstb,fun t ht=>?_,I.lateW,I.noW,fun p hp t ht m hm hb=>?_,fun p hp t ht=>?_,fun p hp t ht=>?_,fun t ht=>?_,by rw [qnr];exact I.size,by rw [qjj,put_ds];exact I.ds.mono hext.le,hrel,I.ext.trans hext,hq,I.pur,I.okx,I.want,fun p hp id c e mk hpk=>?_,I.ids⟩
    · simp only [Bool.or_eq_true,beq_iff_eq] at hm ⊢
      rcases hm with hm|rfl
      · exact .inl (I.clo m m' hm hmm)
      · exact .inl (hr m' hmm)
    · simp only [Bool.or_eq_false_iff,beq_eq_false_iff_ne,I.unl m hm,List.mem_cons]
      constructor
      · rintro⟨(h|h)|h,hne⟩
        · exact absurd h hne
        · exact .inl h
        · exact .inr h
      · rintro (h|⟨q,hq,rfl⟩)
        · exact⟨.inl (.inr h),fun e=>hjr (e ▸ h)⟩
        · exact⟨.inr ⟨q,hq,rfl⟩,(hdone q.j (I.djs q hq)).2⟩
    · rw [qdp (by rw [←hdst];exact ht j (by simp))]
      exact I.same t (fun m hm=>ht m (by simp [hm]))
    · rw [qdp (fun h=>?_)]
      · exact I.earlyW p hp t ht m hm hb
      · have:=hk.uniq j m t hjN (dst_lt hm) (by rw [hdst,h]) hm
        subst this
        have:=(hdone p.j (I.djs p hp)).1
        rw [hb] at this;cases this
    · rw [qdp (fun h=>nodst p hp t h ht)]
      exact I.val p hp t ht
    · rw [qfb (fun h=>nodst p hp t h ht)]
      exact (I.envD p hp t ht).mono hext.le
    · by_cases hot:o.dst=some t
      · rw [hot,put_same,qns (by rw [I.size];exact hd t hot)]
        exact hv
      · rw [qdp hot,qfb hot]
        exact (I.envN t ht).mono hext.le
    · obtain⟨q1,q2,q3,q4,q5⟩:=I.alloc p hp id c e mk hpk
      have hlt:=(List.getElem?_eq_some_iff.1 q2).1
      refine⟨?_,by rw [hext.aframe id hlt q1];exact q2,q3,q4,q5⟩
      cases hi:i' id with
      | none=>rfl
      | some M =>
        rcases hext.fresh id M hi with h1|⟨h1,_⟩
        · rw [q1] at h1;cases h1
        · omega
  cases T with
  | skip h1 h2 h3=>exact absurd hj h3
  | quiet h1 h2 h3=>exact absurd hj h3
  | pur h1 h2 h3=>exact absurd hj h3
  | alloc h1 h2 h3=>exact absurd hj h3
  | @chainSkip _ _ _ _ _ _ _ o h1 h2 h3 h4 h5 =>
    obtain⟨sx,hsx,hse⟩:=I.frame (o.looksAt ops) s.env (I.seesCh hk h1 hr)
    have hwant:Region.wanted o (yielded ops a.tmps)=false:=by
      rw [qf9 hsx.env,←h4]
      exact qgs fun j want d hg hd=>hse d (qjs hg hd)
    refine⟨i,w,_,_,_,common o undef undef H i w h1 h2 (.refl I.rel) I.rel (VR.undef i) I.quiet,h5,.one ?_⟩
    have:=stepR_op_skip (P:=P) (b:=b) (a:=a) (k:=k) (cs:=cs) (w:=w) (ops:=ops) (i:=j) (rest:=l) (by rw [h1];simp [hwant])
    rw [h1] at this
    exact this
  | @chain _ _ _ _ _ _ H1 _ o v h1 h2 h3 h4 h5 h6 h7 h8 =>
    obtain⟨sx,hsx,hse⟩:=I.frame (o.looksAt ops) s.env (I.seesCh hk h1 hr)
    have hwant:Region.wanted o (yielded ops a.tmps)=true:=by
      rw [qf9 hsx.env,←h4]
      exact qgs fun j want d hg hd=>hse d (qjs hg hd)
    have hrels:=evs_rel hsx h5
    rw [evs_congr (sy:=s) hse] at hrels
    obtain⟨i',w',v',e1,g1,hv1,p1⟩:=h6 i w _ I.rel hrels b a ops j l k cs h1 hwant rfl
    refine⟨i',w',_,_,_,common o v v' H1 i' w' h1 h2 e1 g1 hv1 (fun p hp hpk=>h7 p (I.sub p hp) hpk ?_),h8,p1⟩
    cases hb:bef ops p.j j with
    | false=>rfl
    | true =>
      have hpN:p.j<ops.size:=(hk.mem p.j).1 (by rw [←I.spl];simp [I.djs p hp])
      have h1:=qfg I.clo _ _ _ hb hr
      have h2:=(I.unl p.j hpN).2 (.inr ⟨p,hp,rfl⟩)
      rw [h1] at h2;cases h2
theorem qr2 (hk:DOK ops ord ch) {s':St} {H':AH} {post:List Nat}:∀ (pre done:List Nat) (D D0:List Pend) (s:St) (H:AH),(∀ m∈pre,m∉ch)→DI P n ops ord ch L s0 H0 i0 w0 done (pre++post) D D0 s H i w a→DTrace P n ops ch (pre++post) D s H s' H' →
    ∃ D1 D2 s1 H1,DI P n ops ord ch L s0 H0 i0 w0 (done++pre) post D1 D2 s1 H1 i w a∧DTrace P n ops ch post D1 s1 H1 s' H'∧D2.length=D0.length+pre.length
  | [],done,D,D0,s,H,_,I,T=>⟨D,D0,s,H,by simpa using I,T,rfl⟩
  | j :: pre,done,D,D0,s,H,hc,I,T=>by
    obtain⟨p,D1,s1,H1,_,I1,T1⟩:=I.advance hk T (hc j (by simp))
    obtain⟨D2,D3,s2,H2,I2,T2,hl⟩:=qr2 hk pre (done++[j]) D1 (p :: D0) s1 H1 (fun m hm=>hc m (by simp [hm])) I1 T1
    exact⟨D2,D3,s2,H2,by simpa using I2,T2,by simp at hl ⊢;omega⟩
theorem filter_one:∀ {l:List Pend} {p:Pend},p∈l→(l.map (·.j)).Nodup→(l.filter fun q=>q.j != p.j).length+1=l.length
  | [],p,h,_=>by simp at h
  | x :: l,p,h,hn=>by
    simp only [List.map_cons,List.nodup_cons,List.mem_map,not_exists,not_and] at hn
    rcases List.mem_cons.1 h with rfl|h
    · have:l.filter (fun q=>q.j != p.j)=l:=List.filter_eq_self.2 (fun q hq=>by simpa using hn.1 q hq)
      simp [this]
    · have hne:x.j≠p.j:=fun e=>hn.1 p h e.symm
      have:=filter_one h hn.2
      simp [hne,this]
theorem qrt {L:Nat→Bool}:∀ {l:List Nat},(∃ u∈l,L u=false)→∃ pre j post,l=pre++j :: post∧L j=false∧∀ m∈pre,L m=true
  | [],h=>by obtain⟨u,hu,_⟩:=h;simp at hu
  | x :: l,h=>by
    by_cases hx:L x=false
    · exact⟨[],x,l,rfl,hx,fun m hm=>by simp at hm⟩
    · obtain⟨u,hu,hf⟩:=h
      rcases List.mem_cons.1 hu with rfl|hu
      · exact absurd hf hx
      · obtain⟨pre,j,post,rfl,h1,h2⟩:=qrt ⟨u,hu,hf⟩
        refine⟨x :: pre,j,post,rfl,h1,fun m hm=>?_⟩
        rcases List.mem_cons.1 hm with rfl|hm
        · simpa using hx
        · exact h2 m hm
theorem DI.some_ready (hk:DOK ops ord ch) (I:DI P n ops ord ch L s0 H0 i0 w0 done rest D D0 s H i w a) (h:0<rest.length+D0.length):∃ j,j<ops.size∧L j=false∧∀ k∈qc3 ops j,L k=true:=by
  have hu:∃ u∈ord,L u=false:=by
    cases hrest:rest with
    | cons x r =>
      have hx:x∈ord:=by rw [←I.spl,hrest];simp
      exact⟨x,hx,(I.unl x ((hk.mem x).1 hx)).2 (.inl (by rw [hrest];simp))⟩
    | nil =>
      rw [hrest] at h
      cases hD:D0 with
      | nil=>rw [hD] at h;simp at h
      | cons p D1 =>
        have hp:p∈D0:=by rw [hD];simp
        have hx:p.j∈ord:=by rw [←I.spl];simp [I.djs p hp]
        exact⟨p.j,hx,(I.unl p.j ((hk.mem p.j).1 hx)).2 (.inr ⟨p,hp,rfl⟩)⟩
  obtain⟨pre,j,post,e,h1,h2⟩:=qrt hu
  have hj:j∈ord:=by rw [e];simp
  have hjN:=(hk.mem j).1 hj
  refine⟨j,hjN,h1,fun k hkk=>?_⟩
  have hkN:=hk.low j hjN k hkk
  have hko:=(hk.mem k).2 hkN
  rw [e] at hko
  rcases List.mem_append.1 hko with h|h
  · exact h2 k h
  · rcases List.mem_cons.1 h with rfl|h
    · exact absurd hkk (hk.self k hjN)
    · have hpw:=hk.pw
      rw [e] at hpw
      exact absurd hkk ((List.pairwise_cons.1 (List.pairwise_append.1 hpw).2.1).1 k h).2.2.2.2
theorem ready_mem {Lst:Array Bool} (hsz:Lst.size=ops.size) {j:Nat}:j∈Region.ready .any ops Lst↔j<ops.size∧Lst.getD j false=false∧∀ k∈qc3 ops j,Lst.getD k false=true:=by
  unfold Region.ready qc3
  rw [List.mem_filter,List.mem_range]
  refine and_congr_right fun hj=>?_
  rw [Array.getElem?_eq_getElem hj]
  simp only [Option.map_some,Option.getD_some,Bool.and_eq_true,Bool.not_eq_true']
  have hdef:Lst.getD j true=Lst.getD j false:=by
    have:j<Lst.size:=by omega
    simp [Array.getD_eq_getD_getElem?,Array.getElem?_eq_getElem this]
  rw [hdef]
  refine and_congr_right fun _=>?_
  rw [←Array.all_toList,List.all_eq_true]
  constructor
  · intro h k hk
    rw [List.mem_map] at hk
    obtain⟨e,he,rfl⟩:=hk
    rw [List.mem_filter] at he
    have:=h e he.1
    simp only [Bool.or_eq_true,Bool.not_eq_true'] at this
    rcases this with h1|h1
    · rw [he.2] at h1;cases h1
    · exact h1
  · intro h e he
    by_cases hb:Region.binds .any e=true
    · have:=h e.on (List.mem_map.2 ⟨e,List.mem_filter.2 ⟨he,hb⟩,rfl⟩)
      simp only [this,Bool.or_true]
    · simp [hb]
theorem set_fun {Lst:Array Bool} {j:Nat} (hj:j<Lst.size):(fun m=>(Lst.setIfInBounds j true).getD m false)=fun m=>Lst.getD m false || m == j:=by
  funext m
  by_cases h:m=j
  · subst h;simp [hj]
  · simp [Array.getElem?_setIfInBounds_ne (Ne.symm h),h]
theorem drun (hk:DOK ops ord ch) {s':St} {H':AH}:∀ (fuel t:Nat) (Lst:Array Bool) (done rest:List Nat) (D D0:List Pend) (s:St) (H:AH) (i:Inj) (w:World) (a:Act),Lst.size=ops.size →
    DI P n ops ord ch (fun m=>Lst.getD m false) s0 H0 i0 w0 done rest D D0 s H i w a→DTrace P n ops ch rest D s H s' H'→rest.length+D0.length=fuel→∀ (b:Frame) (k:List Item) (cs:List Frame),
    ∃ i' w' a',Ext i0 i' H0 H' w0 w'∧Rel i' H' w'∧StR P i' n s' a'∧Steps P (lone (b.atR a (.inRegion ops (Region.linearise.go .any ops fuel t Lst []) :: k)) cs w) (lone (b.atR a' k) cs w'):=by
  intro fuel
  induction fuel with
  | zero =>
    intro t Lst done rest D D0 s H i w a hsz I T hl b k cs
    have h1:rest=[]:=List.eq_nil_of_length_eq_zero (by omega)
    have h2:D0=[]:=List.eq_nil_of_length_eq_zero (by omega)
    subst h1 h2
    cases T
    exact⟨i,w,a,I.ext,I.rel,⟨I.size,fun t=>I.envN t (fun p hp=>by simp at hp),I.ds⟩,.one (by simp only [Region.linearise.go,List.reverse_nil];exact stepR_region_end)⟩
  | succ fuel ih =>
    intro t Lst done rest D D0 s H i w a hsz I T hl b k cs
    simp only [Region.linearise.go]
    change ∃ i' w' a',Ext i0 i' H0 H' w0 w'∧Rel i' H' w'∧StR P i' n s' a'∧Steps P (lone (b.atR a (.inRegion ops (match (Region.ready .any ops Lst)[t % (Region.ready .any ops Lst).length]? with
      | some i=>Region.linearise.go .any ops fuel (t / (Region.ready .any ops Lst).length) (Lst.setIfInBounds i true) [i]
      | none=>[].reverse) :: k)) cs w) (lone (b.atR a' k) cs w')
    obtain⟨r0,hr0,hr1,hr2⟩:=I.some_ready hk (by omega)
    have hne:r0∈Region.ready .any ops Lst:=(ready_mem hsz).2 ⟨hr0,hr1,hr2⟩
    have hpos:0<(Region.ready .any ops Lst).length:=List.length_pos_of_mem hne
    have hlt:=Nat.mod_lt t hpos
    rw [List.getElem?_eq_getElem hlt]
    simp only
    generalize hj:(Region.ready .any ops Lst)[t % (Region.ready .any ops Lst).length]=j
    have hjm:j∈Region.ready .any ops Lst:=by rw [←hj];exact List.getElem_mem _
    obtain⟨hjN,hjL,hjr⟩:=(ready_mem hsz).1 hjm
    rw [linearise_go_acc,List.reverse_singleton,List.singleton_append]
    have hjS:j<Lst.size:=by omega
    have hsz':(Lst.setIfInBounds j true).size=ops.size:=by simp [hsz]
    -- a pending one is taken
    have goPend:∀ (done rest:List Nat) (D D0:List Pend) (s:St) (H:AH),DI P n ops ord ch (fun m=>Lst.getD m false) s0 H0 i0 w0 done rest D D0 s H i w a→DTrace P n ops ch rest D s H s' H'→rest.length+D0.length=fuel+1→(∃ p∈D0,p.j=j) →
        ∃ i' w' a',Ext i0 i' H0 H' w0 w'∧Rel i' H' w'∧StR P i' n s' a'∧Steps P (lone (b.atR a (.inRegion ops (j :: Region.linearise.go .any ops fuel (t / (Region.ready .any ops Lst).length) (Lst.setIfInBounds j true) []) :: k)) cs w) (lone (b.atR a' k) cs w'):=by
      intro done rest D D0 s H I T hl ⟨p,hp,hpj⟩
      subst hpj
      obtain⟨i1,w1,a1,I1,p1⟩:=I.exec hk hp hjr b (Region.linearise.go .any ops fuel (t / (Region.ready .any ops Lst).length) (Lst.setIfInBounds p.j true) []) k cs
      have hcnt:=filter_one hp I.nod
      obtain⟨i2,w2,a2,e2,g2,t2,p2⟩:=ih (t / (Region.ready .any ops Lst).length) (Lst.setIfInBounds p.j true) done rest D _ s H i1 w1 a1 hsz' (by rw [set_fun hjS];exact I1) T (by omega) b k cs
      exact⟨i2,w2,a2,e2,g2,t2,p1.trans p2⟩
    rcases (I.unl j hjN).1 hjL with hjr'|hjD
    · obtain⟨pre,post,rfl⟩:=List.append_of_mem hjr'
      have hpre:∀ m∈pre,m∉ch:=by
        intro m hm hmc
        have hpw:=hk.pw
        rw [←I.spl] at hpw
        have hmj:=(List.pairwise_append.1 (List.pairwise_append.1 hpw).2.1).2.2 m hm j (by simp)
        have hmN:m<ops.size:=(hk.mem m).1 (by rw [←I.spl];simp [hm])
        have hmL:=(I.unl m hmN).2 (.inl (by simp [hm]))
        have hb:bef ops m j=true:=by
          rcases hmj.2.2.1 hmc with h|h
          · exact hmj.2.2.2.1 hmc h
          · exact h
        have:=qfg I.clo _ _ _ hb hjr
        rw [this] at hmL;cases hmL
      obtain⟨D1,D2,s1,H1,I1,T1,hl1⟩:=qr2 hk (post:=j :: post) pre done D D0 s H hpre I T
      simp only [List.length_append,List.length_cons] at hl
      by_cases hjc:j∈ch
      · obtain⟨i1,w1,a1,s2,H2,I2,T2,p1⟩:=I1.chain hk hjc hjr T1 b (Region.linearise.go .any ops fuel (t / (Region.ready .any ops Lst).length) (Lst.setIfInBounds j true) []) k cs
        obtain⟨i2,w2,a2,e2,g2,t2,p2⟩:=ih (t / (Region.ready .any ops Lst).length) (Lst.setIfInBounds j true) _ post D1 D2 s2 H2 i1 w1 a1 hsz' (by rw [set_fun hjS];exact I2) T2 (by omega) b k cs
        exact⟨i2,w2,a2,e2,g2,t2,p1.trans p2⟩
      · obtain⟨p,D3,s2,H2,hpj,I2,T2⟩:=I1.advance hk T1 hjc
        exact goPend _ post D3 (p :: D2) s2 H2 I2 T2 (by simp;omega) ⟨p,by simp,hpj⟩
    · exact goPend done rest D D0 s H I T hl hjD
end
def drawW (P:Program) (n:Nat) (ops:Array Oper) (ch:List Nat):List Nat→List Pend→St→AH→(St→AH→Prop)→Prop
  | [],_,s,H,K=>K s H
  | j :: rest,D,s,H,K=>∃ o,ops[j]? = some o∧(∀ d,o.dst=some d→d<n) ∧
      ((qb8 ops s o=false∧j∉ch∧drawW P n ops ch rest (⟨j,o,s.env,undef,.skip⟩ :: D) (s.put o.dst undef) H K) ∨
       (qb8 ops s o=false∧j∈ch∧drawW P n ops ch rest D (s.put o.dst undef) H K) ∨
       (qb8 ops s o=true∧o.op.operands.toList.all okX=true ∧
        ((j ∉ ch∧∃ v,(∀ H,qfw P o (o.op.operands.toList.map (ev s)) H v H)∧drawW P n ops ch rest (⟨j,o,s.env,v,.pur⟩ :: D) (s.put o.dst v) H K) ∨
         (j∉ch∧∃ v,qfw P o (o.op.operands.toList.map (ev s)) H v H∧drawW P n ops ch rest (⟨j,o,s.env,v,.quiet⟩ :: D) (s.put o.dst v) H K) ∨
         (j ∉ ch∧∃ c e mk,NewSim P o (o.op.operands.toList.map (ev s)) c e mk∧(∀ p∈D,p.kind=.quiet→qfw P p.o p.vs (H++[.cells c e none false]) p.v (H++[.cells c e none false])) ∧
            drawW P n ops ch rest (⟨j,o,s.env,mk H.length,.alloc H.length c e mk⟩ :: D) (s.put o.dst (mk H.length)) (H++[.cells c e none false]) K) ∨
         (j∈ch∧∃ v H1,qfw P o (o.op.operands.toList.map (ev s)) H v H1∧(∀ p∈D,p.kind=.quiet→bef ops p.j j=false→qfw P p.o p.vs H1 p.v H1)∧drawW P n ops ch rest D (s.put o.dst v) H1 K))))
theorem qdh {P:Program} {n:Nat} {ops:Array Oper} {ch:List Nat}:∀ (l:List Nat) (D:List Pend) (s:St) (H:AH) (K:St→AH→Prop),drawW P n ops ch l D s H K→∃ s' H',K s' H'∧DTrace P n ops ch l D s H s' H'
  | [],D,s,H,K,h=>⟨s,H,h,.nil⟩
  | j :: rest,D,s,H,K,h=>by
    obtain⟨o,ho,hd,h⟩:=h
    rcases h with ⟨h1,h2,h3⟩|⟨h1,h2,h3⟩|⟨h1,h2,h3⟩
    · obtain⟨s',H',q,T⟩:=qdh rest _ _ _ K h3
      exact⟨s',H',q,.skip ho hd h2 h1 T⟩
    · obtain⟨s',H',q,T⟩:=qdh rest _ _ _ K h3
      exact⟨s',H',q,.chainSkip ho hd h2 h1 T⟩
    · rcases h3 with ⟨hc,v,h4,h5⟩|⟨hc,v,h4,h5⟩|⟨hc,c,e,mk,h4,h5,h6⟩|⟨hc,v,H1,h4,h5,h6⟩
      · obtain⟨s',H',q,T⟩:=qdh rest _ _ _ K h5
        exact⟨s',H',q,.pur ho hd hc h1 h2 h4 T⟩
      · obtain⟨s',H',q,T⟩:=qdh rest _ _ _ K h5
        exact⟨s',H',q,.quiet ho hd hc h1 h2 h4 T⟩
      · obtain⟨s',H',q,T⟩:=qdh rest _ _ _ K h6
        exact⟨s',H',q,.alloc ho hd hc h1 h2 h4 h5 T⟩
      · obtain⟨s',H',q,T⟩:=qdh rest _ _ _ K h6
        exact⟨s',H',q,.chain ho hd hc h1 h2 h4 h5 T⟩
theorem W.draw {P:Program} {n:Nat} {ro:Option Nat} {s:St} {H:AH} {Q:AX→St→AH→Prop} {id:Nat} {ops:Array Oper} (hm:P.follows .mixedOrders=true) {ord ch:List Nat} (hok:okD ops ord ch=true) (h:drawW P n ops ch ord [] s H (Q .normal)) :
    W P n ro (.region id ops true) s H Q:=by
  have hk:=okD_spec hok
  obtain⟨s',H',q,T⟩:=qdh _ _ _ _ _ h
  refine⟨.normal,s',H',q,fun i w b a k cs hr hs _=>?_⟩
  have hr1:Rel i H { w with drawn:=w.drawn+1 }:=hr.world rfl
  have hL:∀ m,(Array.replicate ops.size false).getD m false=false:=by
    intro m
    simp only [Array.getD_eq_getD_getElem?,Array.getElem?_replicate]
    split<;>rfl
  have I:DI P n ops ord ch (fun m=>(Array.replicate ops.size false).getD m false) s H i { w with drawn:=w.drawn+1 } [] ord [] [] s H i { w with drawn:=w.drawn+1 } a:=by
    exact { clo:=(fun j k hj=>by simp only [hL] at hj;cases hj),spl:=rfl,unl:=(fun j hj=>by simp only [hL,true_iff];exact .inl ((hk.mem j).2 hj)),
            sub:=(fun p hp=>by cases hp),djs:=(fun p hp=>by cases hp),nod:=.nil,op:=(fun p hp=>by cases hp),nch:=(fun p hp=>by cases hp),dstb:=(fun p hp=>by cases hp),
            same:=(fun _ _=>rfl),lateW:=(fun p hp=>by cases hp),noW:=(fun p hp=>by cases hp),earlyW:=(fun p hp=>by cases hp),val:=(fun p hp=>by cases hp),envD:=(fun p hp=>by cases hp),
            envN:=(fun t _=>hs.env t),size:=hs.size,ds:=hs.ds,rel:=hr1,ext:=.refl hr1,quiet:=(fun p hp=>by cases hp),pur:=(fun p hp=>by cases hp),okx:=(fun p hp=>by cases hp),
            want:=(fun p hp=>by cases hp),alloc:=(fun p hp=>by cases hp),ids:=(fun p hp=>by cases hp) }
  obtain⟨i2,w2,a2,e2,g2,t2,p2⟩:=drun hk ops.size (w.tape w.drawn (.order b.fn id)) (Array.replicate ops.size false) [] ord [] [] s H i { w with drawn:=w.drawn+1 } a (by simp) I T (by simp [hk.len]) b k cs
  refine⟨i2,w2,a2,(Ext.drawn hr _).trans e2,g2,t2,.head stepR_region_draw ?_⟩
  simp only [Region.schedule,hm,Bool.true_or,if_true,Region.linearise]
  exact p2
end Go.Sim

namespace Go.Sim
open Go
def qm2 (env:Nat→Value):List Tmp→List Value→Nat→Value
  | t :: ps,v :: vs=>qm2 (fun x=>if x=t then v else env x) ps vs
  | _,_=>env
theorem parEnv_rel {i:Inj} {n:Nat}:∀ (ps:List Tmp) (vs vs':List Value) (env:Nat→Value) (tmps:Array Value),VRs i vs vs'→tmps.size=n→(∀ t∈ps,t<n)→(∀ t,VR i (env t) (tmps.getD t undef)) →
    ((ps.zip vs').foldl (fun (tmps:Array Value) (x:Tmp×Value)=>tmps.setIfInBounds x.1 x.2) tmps).size=n∧∀ t,VR i (qm2 env ps vs t) (((ps.zip vs').foldl (fun (tmps:Array Value) (x:Tmp×Value)=>tmps.setIfInBounds x.1 x.2) tmps).getD t undef)
  | [],_,_,env,tmps,_,hs,_,h=>⟨hs,h⟩
  | _ :: _,[],_,env,tmps,hv,hs,_,h=>by cases hv;exact⟨hs,h⟩
  | p :: ps,v :: vs,_,env,tmps,hv,hs,hp,h=>by
    cases hv with
    | cons h1 h2 =>
      rename_i v' l'
      simp only [List.zip_cons_cons,List.foldl_cons,qm2]
      refine parEnv_rel ps vs l' _ _ h2 (by simpa using hs) (fun t ht=>hp t (by simp [ht])) (fun t=>?_)
      have hpn:=hp p (by simp)
      by_cases ht:t=p
      · subst ht
        have ht2:t<tmps.size:=by rw [hs];exact hpn
        simpa [ht2] using h1
      · simp only [ht,if_false]
        have:=h t
        simpa [Array.getElem?_setIfInBounds_ne (Ne.symm ht)] using this
def AX.jump:AX→Option Code
  | .normal=>none
  | .exit id=>some (.exit id)
  | .ret=>some .ret
def AX.isN:AX→Bool
  | .normal=>true
  | _=>false
def YSim (P:Program) (l:Nat) (vs:List Value) (H:AH) (v:Value) (H':AH):Prop:=
  ∀ (o:Oper) (c:Call) (f:Operand),o.op=.call c→c.callee=.value f→qfw P o (.func (.yield l) #[] #[] :: vs) H v H'
theorem loopR_state {i:Inj} {l:ALoop} {l':Loop} (h:LoopR i l l') (st:LoopState) (p:Option Code):LoopR i { l with state:=st,pending:=p } { l' with state:=st,pending:=p }:=
  ⟨rfl,rfl,h.params,h.assign,h.body,h.size,h.env,h.defers⟩
theorem rel_loop {i:Inj} {H:AH} {w:World} (h:Rel i H w) {b:Nat} {L:Loc} {r:ALoop} (hb:i b=some L) (hx:H[b]? = some (.loop r)) (st:LoopState) (p:Option Code) :
    ∃ r',w.heap[L.blk]? = some (.loop r')∧LoopR i r r'∧Rel i (H.set b (.loop { r with state:=st,pending:=p })) (w.putObj L.blk (.loop { r' with state:=st,pending:=p })) ∧
      Ext i i H (H.set b (.loop { r with state:=st,pending:=p })) w (w.putObj L.blk (.loop { r' with state:=st,pending:=p })):=by
  obtain⟨r',h1,h2⟩:=h.blk b L _ hb hx
  have hlt:L.blk<w.heap.size:=(Array.getElem?_eq_some_iff.1 h1).1
  have:=rel_obj h (x':=.loop { r with state:=st,pending:=p }) (o':=.loop { r' with state:=st,pending:=p }) hb hx rfl ⟨_,World.putObj_heap_same hlt,loopR_state h2 st p⟩
  exact⟨r',h1,h2,this.1,this.2⟩
theorem ysim {P:Program} {l:Nat} {vs:List Value} {H H1 H3:AH} {r r1 r3:ALoop} {s1 s2:St} {x:AX} (hl:H[l]? = some (.loop r)) (hps:r.params.size=vs.length) (hpn:∀ t∈r.params.toList,t<r.n)
    (ha:CSim P r.n (some l) r.assign ⟨qm2 r.env r.params.toList vs,[]⟩ H .normal s1 H1) (hl1:H1[l]? = some (.loop r1)) (hst:r1.state=.ready)
    (hb:CSim P r.n (some l) r.body s1 (H1.set l (.loop { r1 with state:=.busy,pending:=r1.pending })) x s2 H3) (hl3:H3[l]? = some (.loop r3)) :
    YSim P l vs H (.bool x.isN) (H3.set l (.loop { r3 with state:=if x.isN then .ready else .done,pending:=x.jump })):=by
  intro o c f ho hc i w vs' hr hvs b a ops j rest k cs ho' hw hρ
  cases hvs with
  | cons hf hrest =>
    rename_i f' us'
    cases hf with
    | func hfn hs1 h1 hs2 h2 =>
      rename_i fn' first' cap'
      cases hfn with
      | yield hi =>
        rename_i L
        have e1:first' = #[]:=by apply Array.eq_empty_of_size_eq_zero;simpa using hs1.symm
        have e2:cap' = #[]:=by apply Array.eq_empty_of_size_eq_zero;simpa using hs2.symm
        subst e1 e2
        have hop:o.op.operands.toList=f :: c.args.toList:=by rw [ho];simp [Op.operands,Call.operands,hc]
        rw [hop] at hρ
        simp only [List.map_cons,List.cons.injEq] at hρ
        obtain⟨q1,q2⟩:=hρ
        obtain⟨r',g1,g2⟩:=hr.blk l L _ hi hl
        have hargs:c.args.map a.eval=us'.toArray:=by apply Array.ext';simpa using q2
        have hul:=hrest.length
        have hyield:=run_yield (P:=P) (args:=us'.toArray) g1 (by rw [g2.params];simp [hps,hul])
        have hrun:(execOp a.eval o).run P w=.ok (.round L.blk r'.fn ((r'.params.zip us'.toArray).foldl (fun tmps (t,a)=>tmps.setIfInBounds t a) r'.tmps) r'.assign r'.body) w:=by
          unfold execOp
          rw [ho]
          simp only [resolve,hc,q1,hargs,Deferred.ofValue,Sem.run_bind,Sem.run_pure,Result.andThen_ok,invoke]
          simpa using hyield
        have hnd:∀ c,o.op≠.defer c:=by intro c';rw [ho];simp
        have hgs:=stepGR_op (P:=P) (b:=b) (k:=k) (cs:=cs) (w:=w) (rest:=rest) ho' hw
        rw [Oper.semAt_eq _ _ _ hnd] at hgs
        have hfold:((r'.params.zip us'.toArray).foldl (fun tmps (t,a)=>tmps.setIfInBounds t a) r'.tmps)=(r.params.toList.zip us').foldl (fun (tmps:Array Value) (x:Tmp×Value)=>tmps.setIfInBounds x.1 x.2) r'.tmps:=by
          rw [←Array.foldl_toList,g2.params]
          simp
        rw [hfold] at hrun
        obtain⟨p1,p2⟩:=parEnv_rel r.params.toList vs us' r.env r'.tmps hrest g2.size hpn g2.env
        generalize htm:(r.params.toList.zip us').foldl (fun (tmps:Array Value) (x:Tmp×Value)=>tmps.setIfInBounds x.1 x.2) r'.tmps=tm at hrun p1 p2
        let b':Frame:={ (default:Frame) with fn:=r'.fn,kind:=.normal,roundOf:=some L.blk }
        have henter:step P (lone (b.atR a (.inRegion ops (j :: rest) :: k)) cs w)=.next (lone (b'.atR { tmps:=tm,defers:=[] } [.code r.assign,.beginRound,.code r.body]) (b.atR a (.inRegion ops (j :: rest) :: k) :: cs) w):=by
          rw [←g2.assign,←g2.body]
          exact step_lone_go (by rw [hgs];simp [stepG.apply,hrun,Frame.atR,Frame.round,b'])
        obtain⟨i1,w1,a1,x1,y1,z1,t1⟩:=ha i w b' { tmps:=tm,defers:=[] } [.beginRound,.code r.body] (b.atR a (.inRegion ops (j :: rest) :: k) :: cs) hr ⟨p1,p2,.nil⟩ ⟨L,hi,rfl⟩
        have hi1:=x1.le _ _ hi
        obtain⟨r1',m1,m2,m3,m4⟩:=rel_loop y1 hi1 hl1 .busy r1.pending
        have hbr:=run_beginRound (P:=P) m1 (by rw [m2.state];exact hst)
        have hbr':(Instr.beginRound L.blk).run P w1=.ok () (w1.putObj L.blk (.loop { r1' with state:=.busy,pending:=r1.pending })):=by
          rw [hbr,←m2.pending]
        obtain⟨i2,w2,a2,x2,y2,z2,t2⟩:=hb i1 _ b' a1 [] (b.atR a (.inRegion ops (j :: rest) :: k) :: cs) m3 (z1.mono m4.le) ⟨L,hi1,rfl⟩
        have hi2:=x2.le _ _ hi1
        obtain⟨r3',n1,n2,n3,n4⟩:=rel_loop y2 hi2 hl3 (if x.isN then .ready else .done) x.jump
        refine⟨i2,_,.bool x.isN,((x1.trans m4).trans x2).trans n4,n3,.bool _,?_⟩
        have hfin:∀ u,(b.atR a (.inRegion ops (j :: rest) :: k)).finish u=b.atR (a.put o.dst u) (.inRegion ops rest :: k):=by
          intro u;rw [Frame.finish_atR,ho'];rfl
        have s1:=Steps.head henter (Steps.trans t1 (.one (stepR_beginRound (b:=b') rfl hbr')))
        cases x with
        | normal =>
          have hend:=run_endRound (P:=P) none n1
          exact s1.trans (Steps.trans t2 (.one (by rw [←hfin];exact stepR_round_end (b:=b') rfl rfl hend)))
        | ret =>
          have hend:=run_endRound (P:=P) (some .ret) n1
          obtain⟨todo,t2⟩:=t2
          exact s1.trans (Steps.trans t2 (.one (by rw [←hfin];exact stepR_round_ret (b:=b') rfl rfl hend)))
        | exit id =>
          have hend:=run_endRound (P:=P) (some (.exit id)) n1
          obtain⟨todo,t3,t2⟩:=t2
          exact s1.trans (Steps.trans t2 (.one (by rw [←hfin];exact stepR_round_exit (b:=b') rfl rfl (by rw [t3];rfl) hend)))
def AX.of:Option Code→Option AX
  | none=>some .normal
  | some .ret=>some .ret
  | some (.exit id)=>some (.exit id)
  | _=>none
def qbx (n:Nat) (s:St) (ps:Array Tmp) (assign body:Code) (d:Nat):ALoop:={ state:=.ready,pending:=none,n:=n,env:=s.env,params:=ps,assign,body,defers:=d }
theorem jump_arr {P:Program} {b:Frame} {a:Act} {k:List Item} {cs:List Frame} {w:World} {jump:Option Code} {x:AX} (h:AX.of jump=some x):Arr P (lone (b.atR a ((jump.map Item.code).toList++k)) cs w) b k cs x a w:=by
  unfold AX.of at h
  split at h
  · cases h;exact Steps.refl _ _
  · cases h;exact⟨k,Steps.refl _ _⟩
  · cases h;exact⟨k,rfl,Steps.refl _ _⟩
  · cases h
theorem W.rangeFunc {P:Program} {n:Nat} {s:St} {H:AH} {Q:AX→St→AH→Prop} {f:Operand} {ps:Array Tmp} {assign body:Code} (hf:okX f=true) {g:FuncId} {first cap:Array Value} (hev:ev s f=.func (.func g) first cap)
    {fn:Func} (hg:P.funcs[g]? = some fn) (hb:fn.body.isSome=true) (hname:(fn.name == "runtime.NumGoroutine")=false)
    (h:F P g (first.toList++[.func (.yield (H.length+1)) #[] #[]]++cap.toList) (H++[.defs (some []),.loop (qbx n s ps assign body H.length)])
      (fun _ H2=>∃ r x,H2[H.length+1]? = some (.loop r)∧r.state≠.busy∧AX.of r.pending=some x ∧
        Q x { s with ds:=⟨.collected H.length,#[]⟩ :: s.ds } (H2.set (H.length+1) (.loop { r with state:=.exhausted,pending:=r.pending })))) :
    W P n none (.rangeFunc f ps assign body) s H Q:=by
  obtain⟨v,H2,⟨r,x,hr1,hr2,hr3,hq⟩,hsim⟩:=h
  refine⟨x,_,_,hq,fun i w b a k cs hr hs hro=>?_⟩
  have hro':b.roundOf=none:=hro
  have hfv:=ev_rel hs hf
  rw [hev] at hfv
  generalize hfe:a.eval f=fv at hfv
  cases hfv with
  | func hfn hs1 h1 hs2 h2 =>
    rename_i fn' first' cap'
    cases hfn
    -- the record
    have e1:=ext_new hr (.defs (some [])) (.deferred (some [])) 0 0
    have g1:=qpf hr (.defs (some [])) (.deferred (some [])) 0 0 ⟨[],heap_alloc_new w _,.nil⟩
    generalize hi1:i.upd H.length ⟨w.heap.size,0,0,0⟩=i1 at e1 g1
    have hD:i1 H.length=some ⟨w.heap.size,0,0,0⟩:=by rw [←hi1];exact Inj.upd_same _ _ _
    let rl:Loop:={ state:=.ready,pending:=none,fn:=b.fn,tmps:=a.tmps,params:=ps,assign,body,defers:=w.heap.size }
    have hLR:∀ j:Inj,i1.le j→LoopR j (qbx n s ps assign body H.length) rl:=fun j hj =>
      ⟨rfl,rfl,rfl,rfl,rfl,hs.size,fun t=>(hs.env t).mono (Inj.le_trans e1.le hj),⟨_,hj _ _ hD,rfl⟩⟩
    have e2:=ext_new g1 (.loop (qbx n s ps assign body H.length)) (.loop rl) 0 0
    have g2:=qpf g1 (.loop (qbx n s ps assign body H.length)) (.loop rl) 0 0 ⟨rl,heap_alloc_new _ _,hLR _ (Inj.le_upd g1.none_at)⟩
    have hlen:(H++[AB.defs (some [])]).length=H.length+1:=by simp
    have hws:(w.alloc (.deferred (some []))).heap.size=w.heap.size+1:=by simp
    rw [hlen,hws] at e2 g2
    generalize hi2:i1.upd (H.length+1) ⟨w.heap.size+1,0,0,0⟩=i2 at e2 g2
    have hL:i2 (H.length+1)=some ⟨w.heap.size+1,0,0,0⟩:=by rw [←hi2];exact Inj.upd_same _ _ _
    rw [List.append_assoc] at e2 g2
    have eA:=e1.trans e2
    have hy:VR i2 (.func (.yield (H.length+1)) #[] #[]) (.func (.yield (w.heap.size+1)) #[] #[]):=
      VR.func (FnR.yield (L:=⟨w.heap.size+1,0,0,0⟩) hL) rfl (fun k h=>by simp at h) rfl (fun k h=>by simp at h)
    have hargs:VRs i2 (first.toList++[Value.func (.yield (H.length+1)) #[] #[]]++cap.toList) (first'.toList++[Value.func (.yield (w.heap.size+1)) #[] #[]]++cap'.toList):=
      ((((VRs.of_arr hs1 h1).mono eA.le).append (.cons hy .nil)).append ((VRs.of_arr hs2 h2).mono eA.le))
    obtain⟨i3,w3,v',fr,e3,g3,hv3,p3,_,hleave⟩:=hsim i2 _ _ g2 hargs (b.atR { a with defers:=[{ target:=.collected w.heap.size,args:=#[] }]++a.defers } (.inRangeFunc (w.heap.size+1) :: k) :: cs)
    -- the call
    have henter:=run_enterLoop_outer (P:=P) (w:=w) b.fn a.tmps ps assign body
    have hres:(resolve a.eval (rangeCall f (w.heap.size+1)) 0).run P ((w.alloc (.deferred (some []))).alloc (.loop rl))=.ok { target:=.fn (.func g) cap',args:=first' ++ #[Value.func (.yield (w.heap.size+1)) #[] #[]] } ((w.alloc (.deferred (some []))).alloc (.loop rl)):=by
      simp only [resolve,hfe,Deferred.ofValue]
      simp [Act.eval]
    have hinv:(invoke (.fn (.func g) cap') (first' ++ #[Value.func (.yield (w.heap.size+1)) #[] #[]])).run P ((w.alloc (.deferred (some []))).alloc (.loop rl)) =
        .ok (.enter g (first'.toList++[Value.func (.yield (w.heap.size+1)) #[] #[]]++cap'.toList).toArray) ((w.alloc (.deferred (some []))).alloc (.loop rl)):=by
      simp only [invoke,callFunc,program,Sem.run_bind,Sem.run,Result.andThen_ok,hg,hname,Bool.false_eq_true,if_false]
      rw [if_neg (by cases hbb:fn.body<;>simp_all)]
      simp
    have hstep:=stepR_rangeFunc (P:=P) (b:=b) (a:=a) (k:=k) (cs:=cs) (w:=w) (g:=f) (ps:=ps) (assign:=assign) (body:=body) (by rw [hro'];exact henter) hres hinv
    -- the end
    have hi3:=e3.le _ _ hL
    obtain⟨r',m1,m2,m3,m4⟩:=rel_loop g3 hi3 hr1 .exhausted r.pending
    have hend:=run_endLoop (P:=P) m1 (by rw [m2.state];exact hr2)
    have hend':(Instr.endLoop (w.heap.size+1)).run P w3=.ok r.pending (w3.putObj (w.heap.size+1) (.loop { r' with state:=.exhausted,pending:=r.pending })):=by
      rw [hend,←m2.pending]
    refine⟨i3,_,{ a with defers:=[{ target:=.collected w.heap.size,args:=#[] }]++a.defers },(eA.trans e3).trans m4,m3,⟨hs.size,fun t=>(hs.env t).mono (Inj.le_trans eA.le e3.le),.collected (L:=⟨w.heap.size,0,0,0⟩) (e3.le _ _ (e2.le _ _ hD)) (hs.ds.mono (Inj.le_trans eA.le e3.le))⟩,?_⟩
    have s1:Steps P (lone (b.atR a (.code (.rangeFunc f ps assign body) :: k)) cs w) (lone (b.atR { a with defers:=[{ target:=.collected w.heap.size,args:=#[] }]++a.defers } ((r.pending.map Item.code).toList++k)) cs (w3.putObj (w.heap.size+1) (.loop { r' with state:=.exhausted,pending:=r.pending }))):=by
      refine .head hstep (p3.trans ?_)
      have h1:=step_leave_returned (c:=b.atR { a with defers:=[{ target:=.collected w.heap.size,args:=#[] }]++a.defers } (.inRangeFunc (w.heap.size+1) :: k)) (cs:=cs) hleave
      rw [finish_atR_inRangeFunc] at h1
      exact .head h1 (.one (stepR_endRangeFunc hend'))
    exact Arr.of_steps s1 (jump_arr hr3)
end Go.Sim

namespace Go.Sim
open Go
theorem qfp {P:Program} {t:TypeId} {parts:Array (Nat×Operand)} {o:Oper} (ho:o.op=.build t parts) {vs:List Value} {z:Value} {r:Array Value} {H:AH} (hz:zeroT P t=some z) (hg:z.cells.all scal=true)
    {place:Nat→Option (Nat×Nat)} (hpl:(∃ fs pl,P.underlying t=some (.struct fs)∧fs.toList.mapM (fun f=>(szT P f.type).map fun n=>(f.offset,n))=some pl∧place=fun i=>pl.toArray[i]?) ∨
      (∃ n e sz,P.underlying t=some (.array n e)∧szT P e=some sz∧place=fun i=>some (i*sz,sz)))
    (hf:Instr.fill place z.cells (eparts parts vs)=some r):RunSim P o vs H (.agg r) H:=by
  refine RunSim.pure_ fun i vs' hv ρ hρ=>?_
  rw [ho] at hρ
  simp only [Op.operands,List.map_map] at hρ
  subst hρ
  have hv2:VRs i vs (parts.toList.map fun p=>ρ p.2):=by
    have e1:(parts.toList.map fun p=>ρ p.2)=List.map (ρ∘fun x=>x.2) parts.toList:=rfl
    rw [e1]
    simpa using hv
  have hp:=qqt (i:=i) (ρ:=ρ) parts.toList vs hv2
  have hb:VA i z.cells z.cells:=qqh (by simpa using hg)
  obtain⟨r',hf',hr'⟩:=fill_rel _ _ _ _ r hp hb hf
  refine⟨.agg r',?_,fun w=>?_⟩
  · have:=VRs.arr hr'
    simpa using this
  · have hparts:(parts.map fun (x:Nat×Operand)=>(x.1,ρ x.2)).toList=parts.toList.map fun p=>(p.1,ρ p.2):=by simp
    unfold execOp
    rw [ho]
    rcases hpl with ⟨fs,pl,hu,hm,rfl⟩|⟨n,e,sz,hu,hs,rfl⟩
    · have hplaces:(fs.mapM fun f=>do pure (f.offset,←sizeOf f.type):Sem (Array (Nat×Nat))).run P w=.ok pl.toArray w:=by
        rw [←Array.toArray_toList (xs:=fs)]
        generalize fs.toList=l at hm
        rw [List.mapM_toArray]
        have:(l.mapM fun f=>do pure (f.offset,←sizeOf f.type):Sem (List (Nat×Nat))).run P w=.ok pl w:=by
          clear hf hf'
          induction l generalizing pl with
          | nil=>simp at hm;subst hm;simp
          | cons f l ih =>
            simp only [List.mapM_cons,Option.bind_eq_bind,Option.bind_eq_some_iff] at hm
            obtain⟨x,h1,y,h2,h3⟩:=hm
            simp only [Option.map_eq_some_iff] at h1
            obtain⟨n,h1,rfl⟩:=h1
            cases h3
            have:=ih y h2
            simp only [List.mapM_cons,Sem.run_bind,qbw P h1,Result.andThen_ok,Sem.run_pure,this]
        simp only [Sem.run_map,this]
        rfl
      simp only [Instr.build,Sem.run_bind,qj8 P hz,Result.andThen_ok,qbj P hu,hplaces,hparts,hf',Sem.run_pure]
    · simp only [Instr.build,Sem.run_bind,qj8 P hz,Result.andThen_ok,qbj P hu,qbw P hs,hparts,hf',Sem.run_pure]
def qdc (sz:Option Nat) (cs:List Value) (off:Nat):Option Value:=
  match sz with
  | none=>cs[off]?
  | some n=>if off+n≤cs.length then some (.agg ((cs.drop off).take n).toArray) else none
def qqv (P:Program) (t:TypeId):Option (Option Nat):=
  if (P.underlying t).isNone then none else if aggT P t then (szT P t).map some else some none
theorem part_sim {P:Program} {i:Inj} {t:TypeId} {sz:Option Nat} (ht:qqv P t=some sz) {cs cs':Array Value} (hs:cs.size=cs'.size) (h:∀ k (h:k<cs.size) (h':k<cs'.size),VR i cs[k] cs'[k]) {off:Nat} {v:Value} (hv:qdc sz cs.toList off=some v) :
    ∃ v',VR i v v'∧∀ w,(part t cs' off).run P w=.ok v' w:=by
  unfold qqv at ht
  split at ht
  · cases ht
  · rename_i hn
    obtain⟨d,hd⟩:∃ d,P.underlying t=some d:=by
      cases hh:P.underlying t with
      | none=>simp [hh] at hn
      | some d=>exact⟨d,rfl⟩
    have hl:VRs i cs.toList cs'.toList:=VRs.of_arr hs h
    split at ht
    · rename_i ha
      simp only [Option.map_eq_some_iff] at ht
      obtain⟨n,h1,rfl⟩:=ht
      unfold qdc at hv
      split at hv
      · rename_i e;cases e
      · rename_i m e
        cases e
        split at hv
        · rename_i hfit
          cases hv
          refine⟨.agg (cs'.extract off (off+n)),?_,fun w=>?_⟩
          · refine .agg (by simp at hfit;simp;omega) (fun k p q=>?_)
            simp only [List.getElem_toArray,List.getElem_take,List.getElem_drop,Array.getElem_toList,Array.getElem_extract]
            exact h _ _ _
          · unfold part
            simp [qh3 P hd,ha,qbw P h1]
        · cases hv
    · rename_i ha
      cases ht
      unfold qdc at hv
      split at hv
      · obtain⟨v',h1,h2⟩:=hl.get hv
        refine⟨v',h2,fun w=>?_⟩
        unfold part
        have e:cs'[off]? = some v':=by simpa using h1
        simp [qh3 P hd,ha,e]
      · rename_i e;cases e
theorem qnz {P:Program} {t:TypeId} {x y:Operand} {o:Oper} (ho:o.op=.index t x y) {len:Nat} {e:TypeId} (ht:arrT P t=some (len,e)) {es:Nat} (hes:szT P e=some es) {sz:Option Nat} (hp:qqv P e=some sz)
    {cs:Array Value} {k:IntKind} {n:Int} (h0:0≤n) (hn:n<len) {v:Value} (hv:qdc sz cs.toList (n.toNat*es)=some v) {H:AH}:RunSim P o [.agg cs,.int k n] H v H:=by
  refine RunSim.pure_ fun i vs' hvs ρ hρ=>?_
  obtain⟨u',n',rfl,h1,h2⟩:=hvs.two
  cases h2
  cases h1 with
  | agg hs hk =>
    rename_i cs'
    obtain⟨v',q1,q2⟩:=part_sim hp hs hk hv
    rw [ho] at hρ
    simp [Op.operands] at hρ
    obtain⟨hd⟩:∃ d,P.underlying t=some d:=by
      unfold arrT at ht
      split at ht
      · rename_i h;exact⟨_,h⟩
      · cases ht
    refine⟨v',q1,fun w=>?_⟩
    unfold execOp
    rw [ho]
    unfold arrT at ht
    split at ht
    · rename_i hu
      cases ht
      simp [Instr.index,hρ.1,hρ.2,asIntOf,qbj P hu,h0,hn,qbw P hes,q2]
    · cases ht
theorem qn0 {P:Program} {t:TypeId} {x:Operand} {f:Nat} {o:Oper} (ho:o.op=.field t x f) {fs:Array Field} (hu:P.underlying t=some (.struct fs)) {fd:Field} (hf:fs[f]? = some fd) {sz:Option Nat} (hp:qqv P fd.type=some sz)
    {cs:Array Value} {v:Value} (hv:qdc sz cs.toList fd.offset=some v) {H:AH}:RunSim P o [.agg cs] H v H:=by
  refine RunSim.pure_ fun i vs' hvs ρ hρ=>?_
  obtain⟨u',rfl,h1⟩:=hvs.one
  cases h1 with
  | agg hs hk =>
    rename_i cs'
    obtain⟨v',q1,q2⟩:=part_sim hp hs hk hv
    rw [ho] at hρ
    simp [Op.operands] at hρ
    refine⟨v',q1,fun w=>?_⟩
    unfold execOp
    rw [ho]
    simp [Instr.field,hρ,asAgg,qbj P hu,hf,q2]
end Go.Sim
