/- Part of the proof: SimJ2. -/
import Derived.Test.YtbfpepbfpebmmaaGreatTLinSimGToSimK
import Derived.Recover
set_option linter.all false
namespace Go.Sim
open Go
def quietR0 (ops:Array Oper):Option (Tmp×Tmp):=
  match ops.toList with
  | [⟨some t0,.call ⟨.builtin .recover,⟨[]⟩,_⟩,_,_,_,none⟩,⟨some t1,.assign (.tmp t),_,_,_,none⟩]=>if t=t0 then some (t0,t1) else none
  | _=>none
def ifT (P:Program) (t:TypeId):Bool:=P.underlying t matches some (.interface _)
def quietR1 (P:Program) (ops:Array Oper) (t1:Tmp):Option (Tmp×Tmp):=
  match ops.toList with
  | [⟨some t2,.move (.tmp t),_,_,_,none⟩,⟨some t3,.binOp .neq ty (.tmp u) (.const .nilIface) _,_,_,_,none⟩]=>if t=t1∧u=t2∧ifT P ty=true then some (t2,t3) else none
  | _=>none
def quietC (P:Program) (n:Nat):Code→Bool
  | .seq (.region _ ops0 false) (.seq (.region _ ops1 false) (.cond (.tmp c) _ .skip))=>match quietR0 ops0 with
    | some (t0,t1)=>match quietR1 P ops1 t1 with
      | some (t2,t3)=>decide (t0<n) && decide (t1<n) && decide (t2<n) && decide (t3<n) && c == t3
      | none=>false
    | none=>false
  | _=>false
def quietB (P:Program) (g:FuncId):Bool:=
  match P.funcs[g]? with
  | some fn=>fn.results.size == 0 && !(fn.name == "runtime.NumGoroutine") && (match fn.body with|some c=>quietC P fn.ntmps c|none=>false)
  | none=>false
theorem recover_run {P:Program} {ρ:Operand→Value} {t:Option Tmp} {tys:Array TypeId} {ty:TypeId} {ps:String} {af:Array Edge} (w:World) :
    (execOp ρ ⟨t,.call ⟨.builtin .recover,⟨[]⟩,tys⟩,ty,ps,af,none⟩).run P w=.ok .recover w:=by
  simp [execOp,resolve,invoke,builtin]
theorem equalIn_iface {P:Program} {t:TypeId} (h:ifT P t=true) (d:Nat) (w:World):(Op.equalIn (d+1) t .nilIface .nilIface).run P w=.ok true w:=by
  unfold ifT at h
  cases hu:P.underlying t with
  | none=>rw [hu] at h;cases h
  | some x =>
    rw [hu] at h
    cases x<;>first|(cases h;done)|skip
    simp only [Op.equalIn,Sem.run_bind,qbj P hu,Result.andThen_ok,Sem.run_pure]
theorem eql_iface {P:Program} {t:TypeId} (h:ifT P t=true) (w:World):(Op.equal t .nilIface .nilIface).run P w=.ok true w:=by
  unfold Op.equal;rw [qjp];exact equalIn_iface h _ w
theorem put_size {a:Act} {t:Option Tmp} {v:Value}:(a.put t v).tmps.size=a.tmps.size:=by cases t<;>simp [Act.put]
theorem put_defers {a:Act} {t:Option Tmp} {v:Value}:(a.put t v).defers=a.defers:=by cases t<;>rfl
theorem qph {a:Act} {t:Tmp} {v:Value} (h:t<a.tmps.size):(a.put (some t) v).eval (.tmp t)=v:=by
  simp [Act.put,Act.eval,h]
theorem quietR0_eq {ops:Array Oper} {t0 t1:Tmp} (h:quietR0 ops=some (t0,t1)):∃ tys ty ps af ty' ps' af',
    ops = #[⟨some t0,.call ⟨.builtin .recover,⟨[]⟩,tys⟩,ty,ps,af,none⟩,⟨some t1,.assign (.tmp t0),ty',ps',af',none⟩]:=by
  unfold quietR0 at h
  split at h
  · rename_i e
    split at h
    · rename_i hu
      cases h
      subst hu
      exact⟨_,_,_,_,_,_,_,Array.ext' e⟩
    · cases h
  · cases h
theorem quietR1_eq {P:Program} {ops:Array Oper} {t1 t2 t3:Tmp} (h:quietR1 P ops t1=some (t2,t3)):∃ ty ps af x y z ps' af',ifT P x=true ∧
    ops = #[⟨some t2,.move (.tmp t1),ty,ps,af,none⟩,⟨some t3,.binOp .neq x (.tmp t2) (.const .nilIface) y,z,ps',af',none⟩]:=by
  unfold quietR1 at h
  split at h
  · rename_i e
    split at h
    · rename_i hu
      obtain⟨rfl,rfl,hif⟩:=hu
      cases h
      exact⟨_,_,_,_,_,_,_,_,hif,Array.ext' e⟩
    · cases h
  · cases h
theorem quietB_spec {P:Program} {g:FuncId} (h:quietB P g=true) (cap args:Array Value):QuietD P ⟨.fn (.func g) cap,args⟩:=by
  unfold quietB at h
  split at h
  · rename_i fn hf
    simp only [Bool.and_eq_true,Bool.not_eq_true',beq_iff_eq] at h
    obtain⟨⟨hres,hname⟩,h⟩:=h
    split at h
    · rename_i c hb
      unfold quietC at h
      split at h
      · rename_i id0 ops0 id1 ops1 c' x
        split at h
        · rename_i t0 t1 h0
          split at h
          · rename_i t2 t3 h1
            simp only [Bool.and_eq_true,decide_eq_true_eq,beq_iff_eq] at h
            obtain⟨⟨⟨⟨l0,l1⟩,l2⟩,l3⟩,rfl⟩:=h
            have hcd:∀ w,CallsD P g (args++cap) .returning w (fun e u' w'=>(∃ v,e=.returned v)∧u'=.returning∧w'=w):=by
              intro w
              refine callsD_of_wpS hf hb fun c0 cs hm=>?_
              generalize ha:({ tmps:=args++cap++Array.replicate (fn.ntmps-(args++cap).size) undef,defers:=[] }:Act)=a
              have hsz:fn.ntmps≤a.tmps.size:=by subst ha;simp;omega
              have hdf:a.defers=[]:=by subst ha;rfl
              obtain⟨tys,ty,ps,af,ty',ps',af',rfl⟩:=quietR0_eq h0
              obtain⟨ty1,ps1,af1,x1,y1,z1,ps2,af2,hif,rfl⟩:=quietR1_eq h1
              refine wpS_seq (wpS_region ?_)
              have hr2:List.range 2=[0,1]:=rfl
              have hrec:recoverD (c0 :: cs)=none:=by simp only [recoverD,hm]
              simp only [List.size_toArray,List.length_cons,List.length_nil,Nat.zero_add,Nat.reduceAdd,hr2,wpOpsS,List.getElem?_toArray,List.getElem?_cons_zero,List.getElem?_cons_succ,Region.wanted,if_true,recover_run,hrec,Exit.thenS]
              have e1:∀ (b:Act) (t:Tmp) (ty:TypeId) (p:String) (af:Array Edge) (d:Tmp) (w:World),(execOp b.eval ⟨some d,.assign (.tmp t),ty,p,af,none⟩).run P w=.ok (.value (b.eval (.tmp t))) w:=fun _ _ _ _ _ _ _=>by simp [execOp]
              have e2:∀ (b:Act) (t:Tmp) (ty:TypeId) (p:String) (af:Array Edge) (d:Tmp) (w:World),(execOp b.eval ⟨some d,.move (.tmp t),ty,p,af,none⟩).run P w=.ok (.value (b.eval (.tmp t))) w:=fun _ _ _ _ _ _ _=>by simp [execOp]
              have e3:∀ (b:Act) (t:Tmp) (x y:TypeId) (p:String) (af:Array Edge) (d:Tmp) (w:World),ifT P x=true→b.eval (.tmp t)=.nilIface→(execOp b.eval ⟨some d,.binOp .neq x (.tmp t) (.const .nilIface) y1,y,p,af,none⟩).run P w=.ok (.value (.bool false)) w:=by
                intro b t x y p af d w hif hb
                refine qb9 rfl _ w _ ?_ ?_
                · rw [hb];simp [eqGuard,Act.eval]
                · rw [hb];unfold binOp;rw [Sem.run_bind,show b.eval (.const .nilIface)=.nilIface from rfl,eql_iface hif];rfl
              rw [e1]
              simp only [Oper.upon_value]
              rw [qph (Nat.lt_of_lt_of_le l0 hsz)]
              generalize hA:(a.put (some t0) .nilIface).put (some t1) .nilIface=A
              have hAs:fn.ntmps≤A.tmps.size:=by subst hA;simp only [put_size];exact hsz
              have hAd:A.defers=[]:=by subst hA;simp only [put_defers];exact hdf
              have hA1:A.eval (.tmp t1)=.nilIface:=by subst hA;exact qph (by rw [put_size];exact Nat.lt_of_lt_of_le l1 hsz)
              refine wpS_seq (wpS_region ?_)
              simp only [List.size_toArray,List.length_cons,List.length_nil,Nat.zero_add,Nat.reduceAdd,hr2,wpOpsS,List.getElem?_toArray,List.getElem?_cons_zero,List.getElem?_cons_succ,Region.wanted,if_true,Exit.thenS]
              rw [e2]
              simp only [Oper.upon_value,hA1]
              rw [e3 _ _ _ _ _ _ _ _ hif (qph (Nat.lt_of_lt_of_le l2 hAs))]
              simp only [Oper.upon_value]
              refine wpS_cond (t:=false) (qph (by rw [put_size];exact Nat.lt_of_lt_of_le l3 hAs)) ?_
              refine wpS_of_wp (wp_skip ?_)
              refine⟨by simp only [put_defers];exact hAd,.returning,by rw [←hm],?_⟩
              refine⟨.tuple #[],?_,⟨_,rfl⟩,rfl,rfl⟩
              rw [results_eq,Array.eq_empty_of_size_eq_zero hres]
              simp
            intro fr cs w ds hm hd
            have hin:(invoke (.fn (.func g) cap) args).run P w=.ok (.enter g (args++cap)) w:=by
              simp [invoke,callFunc,program,Sem.run,hf,beq_eq_false_iff_ne.1 hname,hb]
            have hst:=step_defer (P:=P) (cs:=cs) (w:=w) (by rw [hm];simp) hd rfl hin
            obtain⟨e,u',w',frX,⟨⟨v,rfl⟩,rfl,rfl⟩,hsteps,hk,hgo⟩:=hcd w { fr with defers:=ds } cs hm
            have hend:=step_going_returned (c:={ { fr with defers:=ds } with mode:=.returning }) (cs:=cs) hk hgo
            refine .head hst (Steps.trans hsteps (.one ?_))
            rw [hend]
            have hfr:({ fr with defers:=ds }:Frame)={ { { fr with defers:=ds } with mode:=.returning } with mode:=settle .returning }:=by
              show _=({ fr with defers:=ds,mode:=.returning }:Frame)
              rw [←hm]
            rw [←hfr]
          · cases h
        · cases h
      · cases h
    · cases h
  · cases h
end Go.Sim
