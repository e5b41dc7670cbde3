/- Part of the proof: SimB. -/
import Derived.Test.YtbfpepbfpebmmaaGreatTLinSimA
import Derived.Laws.StructEq
set_option linter.all false
namespace Go.Sim
open Go
structure St where
  env:Nat→Value
  ds:List Deferred
def St.put (s:St) (dst:Option Tmp) (v:Value):St:=
  match dst with
  | some d=>{ s with env:=fun t=>if t=d then v else s.env t }
  | none=>s
def qrk (d:Deferred):Bool:=match d.target with | .collected _=>true|_=>false
def QuietD (P:Program) (d:Deferred):Prop:=∀ (fr:Frame) (cs:List Frame) (w:World) (ds:List Deferred),fr.mode=.returning→fr.defers=d :: ds →
  Steps P (lone fr cs w) (lone { fr with defers:=ds } cs w)
structure DsR (P:Program) (i:Inj) (ds:List Deferred) (l:List Deferred):Prop where
  col:DefsR i ds (l.filter qrk)
  qd:∀ d∈l,qrk d=false→QuietD P d
theorem DsR.mono {P:Program} {i j:Inj} (h:i.le j) {ds l:List Deferred} (r:DsR P i ds l):DsR P j ds l:=⟨r.col.mono h,r.qd⟩
theorem DsR.nil {P:Program} {i:Inj}:DsR P i [] []:=⟨.nil,fun d hd=>by cases hd⟩
theorem DsR.collected {P:Program} {i:Inj} {ds l:List Deferred} {r:Nat} {L:Loc} (h:i r=some L) (k:DsR P i ds l):DsR P i (⟨.collected r,#[]⟩ :: ds) (⟨.collected L.blk,#[]⟩ :: l):=
  ⟨by rw [List.filter_cons_of_pos rfl];exact .cons (.collected h) k.col,fun d hd hc=>by
    rcases List.mem_cons.1 hd with rfl|hd
    · cases hc
    · exact k.qd d hd hc⟩
theorem DsR.quiet {P:Program} {i:Inj} {ds l:List Deferred} {d:Deferred} (hc:qrk d=false) (hq:QuietD P d) (k:DsR P i ds l):DsR P i ds (d :: l):=
  ⟨by rw [List.filter_cons_of_neg (by simp [hc])];exact k.col,fun d' hd hc'=>by
    rcases List.mem_cons.1 hd with rfl|hd
    · exact hq
    · exact k.qd d' hd hc'⟩
structure StR (P:Program) (i:Inj) (n:Nat) (s:St) (a:Act):Prop where
  size:a.tmps.size=n
  env:∀ t,VR i (s.env t) (a.tmps.getD t undef)
  ds:DsR P i s.ds a.defers
theorem StR.mono {P:Program} {i j:Inj} (h:i.le j) {n:Nat} {s:St} {a:Act} (r:StR P i n s a):StR P j n s a:=
  ⟨r.size,fun t=>(r.env t).mono h,r.ds.mono h⟩
theorem StR.put {P:Program} {i:Inj} {n:Nat} {s:St} {a:Act} (r:StR P i n s a) {dst:Option Tmp} {v v':Value} (hd:∀ d,dst=some d→d<n) (hv:VR i v v'):StR P i n (s.put dst v) (a.put dst v'):=by
  cases dst with
  | none=>exact r
  | some d =>
    have hdn:=hd d rfl
    refine⟨by simpa [Act.put] using r.size,fun t=>?_,r.ds⟩
    by_cases ht:t=d
    · subst ht
      have:t<a.tmps.size:=by rw [r.size];exact hdn
      simp [St.put,Act.put,this,hv]
    · have:=r.env t
      simp only [St.put,ht,if_false,Act.put]
      simpa [Array.getElem?_setIfInBounds_ne (Ne.symm ht)] using this
def scal:Value→Bool
  | .bool _ | .int _ _ | .float _ _ | .string _ | .nilFunc | .nilIface | .pointer none | .map none | .slice none _ _=>true
  | _=>false
def ground:Value→Bool
  | .agg cs=>cs.all scal
  | .tuple cs=>cs.all scal
  | .iface _ v=>scal v
  | v=>scal v
theorem VR.of_scal {v:Value} (h:scal v=true) (i:Inj):VR i v v:=by
  unfold scal at h
  split at h<;>first|constructor|cases h
theorem VR.of_ground {v:Value} (h:ground v=true) (i:Inj):VR i v v:=by
  unfold ground at h
  split at h
  · exact .agg rfl (fun k h1 _=>VR.of_scal (Array.all_eq_true.1 h k h1) i)
  · exact .tuple rfl (fun k h1 _=>VR.of_scal (Array.all_eq_true.1 h k h1) i)
  · exact .iface _ (VR.of_scal h i)
  · exact VR.of_scal h i
def ev (s:St):Operand→Value
  | .tmp t=>s.env t
  | .const v=>v
  | .func f=>.func (.func f) #[] #[]
  | .global _=>undef
def okX:Operand→Bool
  | .const v=>ground v
  | .global _=>false
  | _=>true
theorem ev_rel {P:Program} {i:Inj} {n:Nat} {s:St} {a:Act} (r:StR P i n s a) {x:Operand} (h:okX x=true):VR i (ev s x) (a.eval x):=by
  cases x with
  | tmp t=>exact r.env t
  | const v=>exact VR.of_ground h i
  | global g=>simp [okX] at h
  | func f=>exact .func (.func f) rfl (fun k h=>by simp at h) rfl (fun k h=>by simp at h)
theorem evs_rel {P:Program} {i:Inj} {n:Nat} {s:St} {a:Act} (r:StR P i n s a):∀ {l:List Operand},l.all okX=true→VRs i (l.map (ev s)) (l.map a.eval)
  | [],_=>.nil
  | x :: l,h=>by
    simp at h
    exact .cons (ev_rel r h.1) (evs_rel r (by simpa using h.2))
def qfw (P:Program) (o:Oper) (vs:List Value) (H:AH) (v:Value) (H':AH):Prop:=
  ∀ (i:Inj) (w:World) (vs':List Value),Rel i H w→VRs i vs vs'→∀ (b:Frame) (a:Act) (ops:Array Oper) (j:Nat) (rest:List Nat) (k:List Item) (cs:List Frame),
    ops[j]? = some o→Region.wanted o (yielded ops a.tmps)=true→o.op.operands.toList.map a.eval=vs' →
    ∃ i' w' v',Ext i i' H H' w w'∧Rel i' H' w'∧VR i' v v' ∧
      Steps P (lone (b.atR a (.inRegion ops (j :: rest) :: k)) cs w) (lone (b.atR (a.put o.dst v') (.inRegion ops rest :: k)) cs w')
def RunSim (P:Program) (o:Oper) (vs:List Value) (H:AH) (v:Value) (H':AH):Prop:=
  ∀ (i:Inj) (w:World) (vs':List Value),Rel i H w→VRs i vs vs'→∀ ρ:Operand→Value,o.op.operands.toList.map ρ=vs' →
    ∃ i' w' v',Ext i i' H H' w w'∧Rel i' H' w'∧VR i' v v'∧((execOp ρ o).run P w=.ok (.value v') w'∨((execOp ρ o).run P w=.ok .skip w'∧v'=undef))
theorem RunSim.op {P:Program} {o:Oper} {vs:List Value} {H H':AH} {v:Value} (hd:∀ c,o.op≠.defer c) (h:RunSim P o vs H v H'):qfw P o vs H v H':=by
  intro i w vs' hr hv b a ops j rest k cs ho hw hvs
  obtain⟨i',w',v',h1,h2,h3,h4⟩:=h i w vs' hr hv a.eval hvs
  refine⟨i',w',v',h1,h2,h3,.one (step_lone_go ?_)⟩
  have hg:=stepGR_op (P:=P) (b:=b) (k:=k) (cs:=cs) (w:=w) (rest:=rest) ho hw
  have hfin:∀ u,(b.atR a (.inRegion ops (j :: rest) :: k)).finish u=b.atR (a.put o.dst u) (.inRegion ops rest :: k):=by
    intro u;rw [Frame.finish_atR,ho];rfl
  rw [hg,Oper.semAt_eq _ _ _ hd,←hfin]
  rcases h4 with h4|⟨h4,rfl⟩<;>simp [stepG.apply,h4]
theorem RunSim.pure_ {P:Program} {o:Oper} {vs:List Value} {H:AH} {v:Value}
    (h:∀ (i:Inj) (vs':List Value),VRs i vs vs'→∀ ρ:Operand→Value,o.op.operands.toList.map ρ=vs'→∃ v',VR i v v'∧∀ w,(execOp ρ o).run P w=.ok (.value v') w):RunSim P o vs H v H:=by
  intro i w vs' hr hv ρ hρ
  obtain⟨v',h1,h2⟩:=h i vs' hv ρ hρ
  exact⟨i,w,v',.refl hr,hr,h1,.inl (h2 w)⟩
theorem VRs.one {i:Inj} {v:Value} {l:List Value} (h:VRs i [v] l):∃ v',l=[v']∧VR i v v':=by
  cases h with|cons a b=>cases b;exact⟨_,rfl,a⟩
theorem VRs.two {i:Inj} {u v:Value} {l:List Value} (h:VRs i [u,v] l):∃ u' v',l=[u',v']∧VR i u u'∧VR i v v':=by
  cases h with|cons a b=>cases b with|cons b c=>cases c;exact⟨_,_,rfl,a,b⟩
theorem VRs.three {i:Inj} {u v x:Value} {l:List Value} (h:VRs i [u,v,x] l):∃ u' v' x',l=[u',v',x']∧VR i u u'∧VR i v v'∧VR i x x':=by
  cases h with|cons a b=>cases b with|cons b c=>cases c with|cons c d=>cases d;exact⟨_,_,_,rfl,a,b,c⟩
def aggT (P:Program) (t:TypeId):Bool:=match P.underlying t with|some (.struct _)=>true|some (.array _ _)=>true|_=>false
def zeroT (P:Program) (t:TypeId):Option Value:=(P.info? t).bind (·.zero)
def ikT (P:Program) (t:TypeId):Option IntKind:=match P.underlying t with|some (.int k)=>some k|_=>none
def fldT (P:Program) (s:TypeId) (f:Nat):Option (Nat×TypeId):=
  match P.underlying s with
  | some (.struct fs)=>match fs[f]? with
    | some x=>match P.info? x.type with
      | some i=>if i.size=0 then none else some (x.offset,x.type)
      | none=>none
    | none=>none
  | _=>none
def arrT (P:Program) (t:TypeId):Option (Nat×TypeId):=match P.underlying t with|some (.array n e)=>some (n,e)|_=>none
def slT (P:Program) (t:TypeId):Option TypeId:=match P.underlying t with|some (.slice e)=>some e|_=>none
def szT (P:Program) (t:TypeId):Option Nat:=(P.info? t).map (·.size)
def eqZ:List Value→List Value→Option Bool
  | [],[]=>some true
  | .int k a :: l,.int k' b :: l'=>if k=k' then (eqZ l l').map (fun r=>(a == b) && r) else none
  | _,_=>none
def flatFs (P:Program) (r:TypeId→Option Nat):List Field→Nat→Option Nat
  | [],_=>some 0
  | f :: fs,j=>if f.name != "_" && Nat.beq f.offset j then match r f.type with
    | some n=>if szT P f.type=some n∧0<n then (flatFs P r fs (j+n)).map (fun m=>n+m) else none
    | none=>none else none
def flatN (P:Program):Nat→TypeId→Option Nat
  | 0,_=>none
  | k+1,t=>match P.underlying t with
    | some (.int _)=>some 1
    | some (.struct fs)=>if P.stoodInHeld t then none else flatFs P (flatN P k) fs.toList 0
    | _=>none
def flatT (P:Program) (t:TypeId):Option Nat:=match P.underlying t with
  | some (.struct _)=>if P.eqGuardType P.depth t then none else flatN P 10 t
  | _=>none
theorem eqZ_cons {k k':IntKind} {a b:Int} {l l':List Value} {r:Bool} (h:eqZ (.int k a :: l) (.int k' b :: l')=some r):k=k'∧∃ r',eqZ l l'=some r'∧r=((a == b) && r'):=by
  simp only [eqZ] at h
  split at h
  · rename_i hk
    cases he:eqZ l l' with
    | none=>rw [he] at h;cases h
    | some r'=>rw [he] at h;cases h;exact⟨hk,r',rfl,rfl⟩
  · cases h
theorem qpq:∀ {l l':List Value} {r:Bool},eqZ l l'=some r→(∀ v∈l,∃ k a,v=.int k a)∧(∀ v∈l',∃ k a,v=.int k a)∧l.length=l'.length
  | [],[],_,_=>⟨by simp,by simp,rfl⟩
  | [],_ :: _,_,h=>by simp [eqZ] at h
  | v :: l,[],_,h=>by cases v<;>simp [eqZ] at h
  | v :: l,v' :: l',r,h=>by
    cases v<;>cases v'<;>(first|(simp [eqZ] at h;done)|skip)
    obtain⟨rfl,r',h1,h2⟩:=eqZ_cons h
    obtain⟨i1,i2,i3⟩:=qpq h1
    refine⟨?_,?_,by simp [i3]⟩
    · intro v hv
      rcases List.mem_cons.1 hv with rfl|hv
      · exact⟨_,_,rfl⟩
      · exact i1 v hv
    · intro v hv
      rcases List.mem_cons.1 hv with rfl|hv
      · exact⟨_,_,rfl⟩
      · exact i2 v hv
def ebin (P:Program) (op:BinOp) (t:TypeId) (x y:Value):Option Value:=
  match op,x,y with
  | .shl,.int k a,.int _ b=>if 0≤b then some (.int k (k.wrap (a*2 ^ (min b.toNat k.bits)))) else none
  | .shr,.int k a,.int _ b=>if 0≤b then some (.int k (a.fdiv (2 ^ (min b.toNat k.bits)))) else none
  | .add,.int k a,.int k' b=>if k=k' then some (.int k (k.wrap (a+b))) else none
  | .sub,.int k a,.int k' b=>if k=k' then some (.int k (k.wrap (a-b))) else none
  | .mul,.int k a,.int k' b=>if k=k' then some (.int k (k.wrap (a*b))) else none
  | .quo,.int k a,.int k' b=>if k=k'∧b≠0 then some (.int k (k.wrap (a.tdiv b))) else none
  | .rem,.int k a,.int k' b=>if k=k'∧b≠0 then some (.int k (a.tmod b)) else none
  | .and,.int k a,.int k' b=>if k=k' then some (.int k (k.wrap (BitVec.ofInt k.bits a &&& BitVec.ofInt k.bits b).toNat)) else none
  | .or,.int k a,.int k' b=>if k=k' then some (.int k (k.wrap (BitVec.ofInt k.bits a ||| BitVec.ofInt k.bits b).toNat)) else none
  | .xor,.int k a,.int k' b=>if k=k' then some (.int k (k.wrap (BitVec.ofInt k.bits a ^^^ BitVec.ofInt k.bits b).toNat)) else none
  | .andNot,.int k a,.int k' b=>if k=k' then some (.int k (k.wrap (BitVec.ofInt k.bits a &&& ~~~ BitVec.ofInt k.bits b).toNat)) else none
  | .eql,.int k a,.int k' b=>if k=k' then some (.bool (a == b)) else none
  | .neq,.int k a,.int k' b=>if k=k' then some (.bool (a != b)) else none
  | .lss,.int k a,.int k' b=>if k=k' then some (.bool (decide (a<b))) else none
  | .leq,.int k a,.int k' b=>if k=k' then some (.bool (decide (a≤b))) else none
  | .gtr,.int k a,.int k' b=>if k=k' then some (.bool (decide (a > b))) else none
  | .geq,.int k a,.int k' b=>if k=k' then some (.bool (decide (a≥b))) else none
  | .eql,.bool a,.bool b=>if (P.underlying t matches some .bool) then some (.bool (a == b)) else none
  | .neq,.bool a,.bool b=>if (P.underlying t matches some .bool) then some (.bool (!(a == b))) else none
  | .eql,.slice a _ _,.slice none _ _=>if (slT P t).isSome then some (.bool a.isNone) else none
  | .neq,.slice a _ _,.slice none _ _=>if (slT P t).isSome then some (.bool (!a.isNone)) else none
  | .eql,.agg a,.agg b=>if flatT P t=some a.size then (eqZ a.toList b.toList).map (fun r=>.bool r) else none
  | .neq,.agg a,.agg b=>if flatT P t=some a.size then (eqZ a.toList b.toList).map (fun r=>.bool !r) else none
  | _,_,_=>none
theorem qbj (P:Program) {t:TypeId} {d:TypeDesc} (h:P.underlying t=some d) (w:World):(underlying t).run P w=.ok d w:=by
  unfold underlying
  simp [program,Bind.bind,Sem.bind,Sem.run,h]
theorem qj9 (P:Program) {t:TypeId} {d:TypeInfo} (h:P.info? t=some d) (w:World):(typeInfo t).run P w=.ok d w:=by
  unfold typeInfo
  simp [program,Bind.bind,Sem.bind,Sem.run,h]
theorem qbw (P:Program) {t:TypeId} {n:Nat} (h:szT P t=some n) (w:World):(sizeOf t).run P w=.ok n w:=by
  unfold szT at h
  cases hi:P.info? t with
  | none=>simp [hi] at h
  | some d =>
    simp [hi] at h
    unfold sizeOf
    rw [Sem.run_bind,qj9 P hi]
    simp [h]
theorem qh3 (P:Program) {t:TypeId} {d:TypeDesc} (h:P.underlying t=some d) (w:World):(isAgg t).run P w=.ok (aggT P t) w:=by
  unfold isAgg
  rw [Sem.run_bind,qbj P h]
  unfold aggT
  rw [h]
  cases d<;>rfl
theorem qj8 (P:Program) {t:TypeId} {z:Value} (h:zeroT P t=some z) (w:World):(zeroValue t).run P w=.ok z w:=by
  unfold zeroT at h
  cases hi:P.info? t with
  | none=>simp [hi] at h
  | some d =>
    simp [hi] at h
    unfold zeroValue
    rw [Sem.run_bind,qj9 P hi]
    simp [h]
theorem eqGuard_int (op:BinOp) (t:TypeId) (x y:Operand) (P:Program) (w:World) (k k':IntKind) (a b:Int):(eqGuard op t x y (.int k a) (.int k' b)).run P w=.ok () w:=by
  unfold eqGuard
  cases op<;>rfl
theorem eqGuard_bool (op:BinOp) (t:TypeId) (x y:Operand) (P:Program) (w:World) (a b:Bool):(eqGuard op t x y (.bool a) (.bool b)).run P w=.ok () w:=by
  unfold eqGuard
  cases op<;>rfl
theorem qg1 (op:BinOp) (t:TypeId) (x y:Operand) (P:Program) (w:World) (a b:Option Addr) (l c m d:Nat):(eqGuard op t x y (.slice a l c) (.slice b m d)).run P w=.ok () w:=by
  unfold eqGuard
  cases op<;>rfl
theorem qnp {P:Program} {t:TypeId} (h:P.eqGuardType P.depth t=false) (op:BinOp) (x y:Operand) (w:World) (a b:Array Value):(eqGuard op t x y (.agg a) (.agg b)).run P w=.ok () w:=by
  unfold eqGuard
  cases op<;>first|rfl|simp [run_program,h]
theorem qb9 {P:Program} {op:BinOp} {t y':TypeId} {x y:Operand} {o:Oper} (ho:o.op=.binOp op t x y y') (ρ:Operand→Value) (w:World) (v:Value)
    (h1:(eqGuard op t x y (ρ x) (ρ y)).run P w=.ok () w) (h2:(binOp op t (ρ x) (ρ y)).run P w=.ok v w):(execOp ρ o).run P w=.ok (.value v) w:=by
  unfold execOp
  rw [ho]
  simp only [Sem.run_bind,h1,h2,Result.andThen_ok,Sem.run_pure]
theorem binOp_int {P:Program} {op:BinOp} {t:TypeId} {k k':IntKind} {a b:Int} {v:Value} (h:ebin P op t (.int k a) (.int k' b)=some v) (w:World) :
    (binOp op t (.int k a) (.int k' b)).run P w=.ok v w:=by
  cases op<;>simp only [ebin] at h<;>(first|(cases h;done)|skip)<;>split at h<;>(first|cases h|skip)<;>rename_i hc
  all_goals (try (obtain⟨hc,hc2⟩:=hc))
  all_goals (try subst hc)
  all_goals (first
    | (simp [binOp,Op.intArith];done)
    | (simp [binOp,Op.intDiv,hc2];done)
    | (simp [binOp,Op.intBits];done)
    | (simp [binOp,Op.intCmp];done)
    | (have hn:¬b<0:=by omega
       simp [binOp,Op.shift,hn];done))
theorem equalIn_bool {P:Program} {t:TypeId} (h:P.underlying t=some .bool) (d:Nat) (a b:Bool) (w:World):(Op.equalIn (d+1) t (.bool a) (.bool b)).run P w=.ok (a == b) w:=by
  simp only [Op.equalIn,Sem.run_bind,qbj P h,Result.andThen_ok,Sem.run_pure]
theorem equalIn_slice {P:Program} {t e:TypeId} (h:P.underlying t=some (.slice e)) (d:Nat) (a:Option Addr) (l c m n:Nat) (w:World):(Op.equalIn (d+1) t (.slice a l c) (.slice none m n)).run P w=.ok a.isNone w:=by
  cases a<;>simp only [Op.equalIn,Sem.run_bind,qbj P h,Result.andThen_ok,Sem.run_pure]<;>rfl
theorem qjp:Op.maxDepth=9999+1:=rfl
theorem part_int {P:Program} {e:TypeId} {k:IntKind} (he:P.underlying e=some (.int k)) {xs:Array Value} {off:Nat} {v:Value} (hx:xs[off]? = some v) (w:World):(part e xs off).run P w=.ok v w:=by
  simp [part,isAgg,run_underlying he,hx]
theorem equalIn_int {P:Program} {t:TypeId} {q:IntKind} (h:P.underlying t=some (.int q)) (d:Nat) (k:IntKind) (a b:Int) (w:World):(Op.equalIn (d+1) t (.int k a) (.int k b)).run P w=.ok (a == b) w:=by
  simp only [Op.equalIn,Sem.run_bind,qbj P h,Result.andThen_ok,Sem.run_pure,if_true]
theorem eqZ_split:∀ {a b c d:List Value} {r:Bool},a.length=c.length→eqZ (a++b) (c++d)=some r→∃ r1 r2,eqZ a c=some r1∧eqZ b d=some r2∧r=(r1 && r2)
  | [],b,[],d,r,_,h=>⟨true,r,rfl,h,rfl⟩
  | v :: a,b,v' :: c,d,r,hl,h=>by
    cases v<;>cases v'<;>(first|(simp [eqZ] at h;done)|skip)
    obtain⟨rfl,r',h1,h2⟩:=eqZ_cons h
    obtain⟨r1,r2,q1,q2,q3⟩:=eqZ_split (by simpa using hl) h1
    refine⟨_ && r1,r2,by simp only [eqZ,if_true,q1];rfl,q2,?_⟩
    rw [h2,q3,Bool.and_assoc]
  | [],_,_ :: _,_,_,hl,_=>by simp at hl
  | _ :: _,_,[],_,_,hl,_=>by simp at hl
def mkV (P:Program) (t:TypeId) (l:List Value):Value:=match P.underlying t with
  | some (.struct _)=>.agg l.toArray
  | _=>l.getD 0 undef
theorem part_flat {P:Program} {k:Nat} {e:TypeId} {n:Nat} (h:flatN P k e=some n) (hz:szT P e=some n) (xs:Array Value) (off:Nat) (hl:off+n≤xs.size) (w:World):(part e xs off).run P w=.ok (mkV P e ((xs.toList.drop off).take n)) w:=by
  cases k with
  | zero=>cases h
  | succ k =>
    unfold flatN at h
    unfold mkV
    split at h
    · rename_i q hu
      cases h
      have hx:xs[off]? = some xs[off]:=Array.getElem?_eq_getElem (by omega)
      rw [part_int hu hx w,hu]
      simp [List.getD_eq_getElem?_getD,hx]
    · rename_i fs hu
      have:xs.extract off (off+n)=((xs.toList.drop off).take n).toArray:=by
        apply Array.ext'
        rw [Array.toList_extract]
        simp [List.extract]
      simp [part,isAgg,qbj P hu,qbw P hz,hu,this]
    · cases h
theorem qkt {P:Program} {k:Nat} (d:Nat) (ih:∀ (t:TypeId) (n:Nat) (a b:List Value) (r:Bool) (w:World),flatN P k t=some n→a.length=n→eqZ a b=some r→(Op.equalIn d t (mkV P t a) (mkV P t b)).run P w=.ok r w) (xs ys:Array Value) (w:World) :
    ∀ (fs:List Field) (j m:Nat) (r:Bool),flatFs P (flatN P k) fs j=some m→(xs.toList.drop j).length=m→eqZ (xs.toList.drop j) (ys.toList.drop j)=some r→(Op.eqFields d xs ys fs).run P w=.ok r w
  | [],j,m,r,hf,hl,he=>by
    cases hf
    have h0:xs.toList.drop j=[]:=List.length_eq_zero_iff.1 hl
    rw [h0] at he
    cases hy:ys.toList.drop j with
    | nil=>rw [hy] at he;simp [eqZ] at he;subst he;simp [Op.eqFields]
    | cons v l=>rw [hy] at he;simp [eqZ] at he
  | f :: fs,j,m,r,hf,hl,he=>by
    unfold flatFs at hf
    split at hf
    · rename_i hno
      simp only [Bool.and_eq_true,bne_iff_ne,ne_eq] at hno
      obtain⟨hn,ho⟩:=hno
      have ho:=Nat.eq_of_beq_eq_true ho
      split at hf
      · rename_i n hr
        split at hf
        · rename_i hz
          obtain⟨hz,hn0⟩:=hz
          rw [Option.map_eq_some_iff] at hf
          obtain⟨m',hm',rfl⟩:=hf
          obtain⟨_,_,hlen⟩:=qpq he
          have hxl:xs.toList.drop j=(xs.toList.drop j).take n++xs.toList.drop (j+n):=by rw [←List.drop_drop];exact (List.take_append_drop _ _).symm
          have hyl:ys.toList.drop j=(ys.toList.drop j).take n++ys.toList.drop (j+n):=by rw [←List.drop_drop];exact (List.take_append_drop _ _).symm
          have l1:((xs.toList.drop j).take n).length=n:=by rw [List.length_take,hl];omega
          have l2:((ys.toList.drop j).take n).length=n:=by rw [List.length_take,←hlen,hl];omega
          have hsx:j+n≤xs.size:=by
            rw [List.length_drop] at hl;simp at hl;omega
          have hsy:j+n≤ys.size:=by
            rw [List.length_drop,List.length_drop] at hlen;simp at hlen
            rw [List.length_drop] at hl;simp at hl;omega
          have lr:(xs.toList.drop (j+n)).length=m':=by
            rw [List.length_drop] at hl ⊢;omega
          rw [hxl,hyl] at he
          obtain⟨r1,r2,q1,q2,q3⟩:=eqZ_split (by rw [l1,l2]) he
          have h1:=ih f.type n _ _ r1 w hr l1 q1
          have h2:=qkt d ih xs ys w fs (j+n) m' r2 hm' lr q2
          simp only [Op.eqFields,hn,ne_eq,not_false_eq_true,if_true,Sem.run_bind,ho,part_flat hr hz xs j hsx w,part_flat hr hz ys j hsy w,h1,Result.andThen_ok]
          subst q3
          cases r1
          · simp
          · simpa using h2
        · cases hf
      · cases hf
    · cases hf
theorem qnn {P:Program}:∀ (k d:Nat) (t:TypeId) (n:Nat) (a b:List Value) (r:Bool) (w:World),flatN P k t=some n→a.length=n→eqZ a b=some r→(Op.equalIn (d+k) t (mkV P t a) (mkV P t b)).run P w=.ok r w
  | 0,_,_,_,_,_,_,_,h,_,_=>by cases h
  | k + 1,d,t,n,a,b,r,w,h,hl,he=>by
    unfold flatN at h
    unfold mkV
    split at h
    · rename_i q hu
      cases h
      obtain⟨i1,i2,i3⟩:=qpq he
      match a,b,hl,i3 with
      | [v],[v'],_,_ =>
        rw [hu]
        cases v<;>cases v'<;>(first|(simp [eqZ] at he;done)|skip)
        obtain⟨rfl,r',h1,h2⟩:=eqZ_cons he
        cases h1
        rw [h2,Bool.and_true]
        exact equalIn_int hu (d+k) _ _ _ w
    · rename_i fs hu
      split at h
      · cases h
      · rename_i hst
        have hfs:P.fieldsOf t=fs:=by simp [Program.fieldsOf,hu]
        rw [hu]
        show (Op.equalIn (d+(k+1)) t (.agg a.toArray) (.agg b.toArray)).run P w=.ok r w
        rw [show d+(k+1)=(d+k)+1 from rfl,run_equalIn_struct w (d+k) t a.toArray b.toArray (by rw [hfs];exact hu) (by simpa using hst),hfs]
        exact qkt (d+k) (fun t n a b r w=>qnn k d t n a b r w) a.toArray b.toArray w fs.toList 0 n r h (by simpa using hl) (by simpa using he)
    · cases h
theorem qpp {P:Program} {t:TypeId} {xs ys:Array Value} {r:Bool} (ht:flatT P t=some xs.size) (he:eqZ xs.toList ys.toList=some r) (w:World):(Op.equal t (.agg xs) (.agg ys)).run P w=.ok r w∧P.eqGuardType P.depth t=false:=by
  unfold flatT at ht
  split at ht
  · rename_i fs hu
    split at ht
    · cases ht
    · rename_i hg
      refine⟨?_,by simpa using hg⟩
      have h:=qnn (P:=P) 10 9990 t xs.size xs.toList ys.toList r w ht (by simp) he
      unfold mkV at h
      rw [hu] at h
      exact h
  · cases ht
theorem qds {P:Program} {t:TypeId} {x y:Value} (hb:(∃ a b,x=.bool a∧y=.bool b)∨(∃ a l c b m n,x=.slice a l c∧y=.slice b m n)∨∃ a b,x=.agg a∧y=.agg b) {r:Bool} (w:World) (h:(Op.equal t x y).run P w=.ok r w) :
    (binOp .eql t x y).run P w=.ok (.bool r) w∧(binOp .neq t x y).run P w=.ok (.bool !r) w:=by
  rcases hb with ⟨a,b,rfl,rfl⟩|⟨a,l,c,b,m,n,rfl,rfl⟩|⟨a,b,rfl,rfl⟩<;>constructor<;>(unfold binOp;rw [Sem.run_bind,h];rfl)
theorem eql_bool {P:Program} {t:TypeId} (h:P.underlying t=some .bool) (a b:Bool) (w:World):(Op.equal t (.bool a) (.bool b)).run P w=.ok (a == b) w:=by
  unfold Op.equal;rw [qjp];exact equalIn_bool h _ a b w
theorem qgq {P:Program} {t e:TypeId} (h:P.underlying t=some (.slice e)) (a:Option Addr) (l c m n:Nat) (w:World):(Op.equal t (.slice a l c) (.slice none m n)).run P w=.ok a.isNone w:=by
  unfold Op.equal;rw [qjp];exact equalIn_slice h _ a l c m n w
theorem runSim_binOp {P:Program} {op:BinOp} {t y':TypeId} {x y:Operand} {o:Oper} (ho:o.op=.binOp op t x y y') {u v r:Value} {H:AH} (h:ebin P op t u v=some r):RunSim P o [u,v] H r H:=by
  refine RunSim.pure_ fun i vs' hv ρ hρ=>?_
  obtain⟨u',v',rfl,hu,hw⟩:=hv.two
  rw [ho] at hρ
  simp [Op.operands] at hρ
  obtain⟨e1,e2⟩:=hρ
  cases hu with
  | int k a =>
    cases hw with
    | int k' b =>
      refine⟨r,?_,fun w=>qb9 ho ρ w r ?_ ?_⟩
      · cases op<;>simp only [ebin] at h<;>(first|(cases h;done)|skip)<;>split at h<;>(first|cases h|skip)<;>constructor
      · rw [e1,e2];exact eqGuard_int ..
      · rw [e1,e2];exact binOp_int h w
    | _=>cases op<;>simp [ebin] at h
  | bool a =>
    cases hw with
    | bool b =>
      cases hd:P.underlying t with
      | none=>cases op<;>simp [ebin,hd] at h
      | some d =>
        cases d<;>cases op<;>simp [ebin,hd] at h
        all_goals subst h
        all_goals refine⟨_,.bool _,fun w=>qb9 ho ρ w _ (by rw [e1,e2];exact eqGuard_bool ..) ?_⟩
        all_goals rw [e1,e2]
        all_goals have hq:=qds (.inl ⟨a,b,rfl,rfl⟩) w (eql_bool hd a b w)
        all_goals first|exact hq.1|exact hq.2
    | _=>cases op<;>simp [ebin] at h
  | snil l c =>
    cases hw with
    | snil l' c' =>
      cases hd:P.underlying t with
      | none=>cases op<;>simp [ebin,slT,hd] at h
      | some d =>
        cases d<;>cases op<;>simp [ebin,slT,hd] at h
        all_goals subst h
        all_goals refine⟨_,.bool _,fun w=>qb9 ho ρ w _ (by rw [e1,e2];exact qg1 ..) ?_⟩
        all_goals rw [e1,e2]
        all_goals first|exact (qds (.inr (.inl ⟨_,_,_,_,_,_,rfl,rfl⟩)) w (qgq hd _ _ _ _ _ w)).1|exact (qds (.inr (.inl ⟨_,_,_,_,_,_,rfl,rfl⟩)) w (qgq hd _ _ _ _ _ w)).2
    | _=>cases op<;>simp [ebin] at h
  | slice e s c =>
    cases hw with
    | snil l' c' =>
      cases hd:P.underlying t with
      | none=>cases op<;>simp [ebin,slT,hd] at h
      | some d =>
        cases d<;>cases op<;>simp [ebin,slT,hd] at h
        all_goals subst h
        all_goals refine⟨_,.bool _,fun w=>qb9 ho ρ w _ (by rw [e1,e2];exact qg1 ..) ?_⟩
        all_goals rw [e1,e2]
        all_goals first|exact (qds (.inr (.inl ⟨_,_,_,_,_,_,rfl,rfl⟩)) w (qgq hd _ _ _ _ _ w)).1|exact (qds (.inr (.inl ⟨_,_,_,_,_,_,rfl,rfl⟩)) w (qgq hd _ _ _ _ _ w)).2
    | _=>cases op<;>simp [ebin] at h
  | vague e =>
    cases hw with
    | snil l' c' =>
      cases hd:P.underlying t with
      | none=>cases op<;>simp [ebin,slT,hd] at h
      | some d =>
        cases d<;>cases op<;>simp [ebin,slT,hd] at h
        all_goals subst h
        all_goals refine⟨_,.bool _,fun w=>qb9 ho ρ w _ (by rw [e1,e2];exact qg1 ..) ?_⟩
        all_goals rw [e1,e2]
        all_goals first|exact (qds (.inr (.inl ⟨_,_,_,_,_,_,rfl,rfl⟩)) w (qgq hd _ _ _ _ _ w)).1|exact (qds (.inr (.inl ⟨_,_,_,_,_,_,rfl,rfl⟩)) w (qgq hd _ _ _ _ _ w)).2
    | _=>cases op<;>simp [ebin] at h
  | @agg cs ds hsz hat =>
    cases hw with
    | @agg cs' ds' hsz' hat' =>
      have key:∀ {f:Bool→Bool},(if flatT P t=some cs.size then (eqZ cs.toList cs'.toList).map (fun r=>Value.bool (f r)) else none)=some r→∃ b,flatT P t=some cs.size∧eqZ cs.toList cs'.toList=some b∧r=.bool (f b):=by
        intro f h
        split at h
        · rename_i h1
          cases h2:eqZ cs.toList cs'.toList with
          | none=>rw [h2] at h;simp at h
          | some b=>rw [h2] at h;simp at h;exact⟨b,h1,rfl,h.symm⟩
        · cases h
      have same:∀ {b:Bool},eqZ cs.toList cs'.toList=some b→ds=cs∧ds'=cs':=by
        intro b hb
        obtain⟨i1,i2,_⟩:=qpq hb
        constructor
        · refine Array.ext hsz.symm fun k h1 h2=>?_
          have:=hat k h2 h1
          obtain⟨q,a,ha⟩:=i1 cs[k] (Array.mem_toList_iff.2 (Array.getElem_mem h2))
          rw [ha] at this ⊢
          generalize ds[k]=x at this ⊢
          cases this;rfl
        · refine Array.ext hsz'.symm fun k h1 h2=>?_
          have:=hat' k h2 h1
          obtain⟨q,a,ha⟩:=i2 cs'[k] (Array.mem_toList_iff.2 (Array.getElem_mem h2))
          rw [ha] at this ⊢
          generalize ds'[k]=x at this ⊢
          cases this;rfl
      cases op<;>(first|(simp [ebin] at h;done)|skip)
      · obtain⟨b,h1,h2,rfl⟩:=key (f:=fun r=>r) h
        obtain⟨rfl,rfl⟩:=same h2
        refine⟨_,.bool _,fun w=>qb9 ho ρ w _ (by rw [e1,e2];exact qnp (qpp h1 h2 w).2 ..) ?_⟩
        rw [e1,e2]
        exact (qds (.inr (.inr ⟨_,_,rfl,rfl⟩)) w (qpp h1 h2 w).1).1
      · obtain⟨b,h1,h2,rfl⟩:=key (f:=fun r=>!r) h
        obtain⟨rfl,rfl⟩:=same h2
        refine⟨_,.bool _,fun w=>qb9 ho ρ w _ (by rw [e1,e2];exact qnp (qpp h1 h2 w).2 ..) ?_⟩
        rw [e1,e2]
        exact (qds (.inr (.inr ⟨_,_,rfl,rfl⟩)) w (qpp h1 h2 w).1).2
    | _=>cases op<;>simp [ebin] at h
  | _=>cases hw<;>cases op<;>simp [ebin] at h
theorem qqm {P:Program} {x:Operand} {o:Oper} (ho:o.op=.move x∨o.op=.assign x) {v:Value} {H:AH}:RunSim P o [v] H v H:=by
  refine RunSim.pure_ fun i vs' hv ρ hρ=>?_
  obtain⟨v',rfl,h⟩:=hv.one
  have e1:ρ x=v':=by rcases ho with ho|ho<;>(rw [ho] at hρ;simpa [Op.operands] using hρ)
  refine⟨v',h,fun w=>?_⟩
  unfold execOp
  rcases ho with ho|ho<;>(rw [ho];simp [e1])
theorem runSim_pick {P:Program} {c x y:Operand} {o:Oper} (ho:o.op=.pick c x y) {b:Bool} {u v:Value} {H:AH}:RunSim P o [.bool b,u,v] H (if b then u else v) H:=by
  refine RunSim.pure_ fun i vs' hv ρ hρ=>?_
  obtain⟨b',u',v',rfl,h1,h2,h3⟩:=hv.three
  cases h1
  rw [ho] at hρ
  simp [Op.operands] at hρ
  obtain⟨e1,e2,e3⟩:=hρ
  refine⟨if b then u' else v',?_,fun w=>?_⟩
  · cases b<;>simpa
  · unfold execOp
    rw [ho]
    simp [e1,e2,e3,asBool]
def eun (op:UnOp) (x:Value):Option Value:=
  match op,x with
  | .neg,.int k n=>some (.int k (k.wrap (0-n)))
  | .not,.bool b=>some (.bool !b)
  | .xor,.int k n=>some (.int k (k.wrap (BitVec.ofInt k.bits (if k.signed then -1 else k.max) ^^^ BitVec.ofInt k.bits n).toNat))
  | _,_=>none
theorem runSim_unOp {P:Program} {op:UnOp} {t:TypeId} {x:Operand} {o:Oper} (ho:o.op=.unOp op t x) {u r:Value} {H:AH} (h:eun op u=some r):RunSim P o [u] H r H:=by
  refine RunSim.pure_ fun i vs' hv ρ hρ=>?_
  obtain⟨u',rfl,hu⟩:=hv.one
  rw [ho] at hρ
  simp [Op.operands] at hρ
  cases hu<;>cases op<;>simp [eun] at h
  all_goals subst h
  all_goals refine⟨_,by constructor,fun w=>?_⟩
  all_goals unfold execOp
  all_goals rw [ho]
  all_goals simp [hρ,Op.unary,Op.intArith,Op.intBits]
theorem qkc {P:Program} {s d:TypeId} {x:Operand} {o:Oper} (ho:o.op=.convert s d x) {k k':IntKind} {n:Int} {H:AH} (hs:(P.underlying s).isSome=true) (hd:ikT P d=some k') :
    RunSim P o [.int k n] H (.int k' (k'.wrap n)) H:=by
  refine RunSim.pure_ fun i vs' hv ρ hρ=>?_
  obtain⟨u',rfl,hu⟩:=hv.one
  cases hu
  rw [ho] at hρ
  simp [Op.operands] at hρ
  refine⟨_,.int _ _,fun w=>?_⟩
  unfold execOp
  rw [ho]
  obtain⟨sd,hsd⟩:=Option.isSome_iff_exists.1 hs
  unfold ikT at hd
  cases hdd:P.underlying d with
  | none=>simp [hdd] at hd
  | some dd =>
    cases dd<;>simp [hdd] at hd
    subst hd
    simp [hρ,convert,qbj P hsd,qbj P hdd,Conv.intToInt]
theorem runSim_extract {P:Program} {x:Operand} {ix:Nat} {o:Oper} (ho:o.op=.extract x ix) {vs:Array Value} {r:Value} {H:AH} (h:vs[ix]? = some r):RunSim P o [.tuple vs] H r H:=by
  refine RunSim.pure_ fun i vs' hv ρ hρ=>?_
  obtain⟨u',rfl,hu⟩:=hv.one
  rw [ho] at hρ
  simp [Op.operands] at hρ
  cases hu with
  | tuple hs hk =>
    rename_i ds
    have hlt:ix<vs.size:=by
      rcases Nat.lt_or_ge ix vs.size with h1|h1
      · exact h1
      · rw [Array.getElem?_eq_none h1] at h;cases h
    rw [Array.getElem?_eq_getElem hlt] at h
    cases h
    refine⟨_,hk ix hlt (hs ▸ hlt),fun w=>?_⟩
    unfold execOp
    rw [ho]
    have:ix<ds.size:=hs ▸ hlt
    simp [hρ,Instr.extract,this]
end Go.Sim
