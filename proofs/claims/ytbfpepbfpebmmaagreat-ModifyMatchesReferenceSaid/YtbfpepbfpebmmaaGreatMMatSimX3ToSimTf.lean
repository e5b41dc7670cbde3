/- Part of the proof: SimX3, SimTf. -/
import Derived.Test.YtbfpepbfpebmmaaGreatMMatSimWToSimX2
set_option linter.all false
namespace Go.Sim
open Go
theorem known_ofM {P:Program} (hm:P.follows .mixedOrders=true) {T:FuncId→Option XF} (hT:∀ g xf,T g=some xf→qb8 P g=some xf) {O:qd4} (hO:CallOk P O) {wr:FuncId→Bool} {L d:Nat} {g:FuncId} {args:List Value} {kr:KRes}
    (hg:args.all ground=true) (h:kChk (callM T O wr L d 0 g args []) kr=true):qnj P g args kr:=by
  intro H
  unfold kChk at h
  split at h
  · cases h
  · rename_i v J hv
    have hF:=(callM_ok hm hT hO L d 0 g args [] v J (Nat.zero_le _) hv).1
    split at h
    · rename_i w
      rw [Bool.and_eq_true] at h
      have:=eqW_eq h.1
      subst this
      exact known_val hg h.2 hF H
    · rename_i l c x
      rw [Bool.and_eq_true] at h
      have h1:=eqW_eq h.1
      obtain⟨h2,h3⟩:=eqB_eq h.2
      exact qmc (mk:=(KRes.row l c x).mk) hg KRes.mk_row h3 h2 (hF.mono (by rintro _ _ ⟨rfl,rfl⟩;exact⟨h1,rfl⟩)) H
    · rename_i p e n c er x
      rw [Bool.and_eq_true] at h
      have h1:=eqW_eq h.1
      obtain⟨h2,h3⟩:=eqB_eq h.2
      exact qmc (mk:=(KRes.fld p e n c er x).mk) hg KRes.mk_fld h3 h2 (hF.mono (by rintro _ _ ⟨rfl,rfl⟩;exact⟨h1,rfl⟩)) H
end Go.Sim

namespace Go.Sim
open Go
namespace Tf
variable {γ α:Type}
noncomputable def fL (f:α→(α→γ)→γ):List α→(List α→γ)→γ
  | [],K=>K []
  | a :: l,K=>f a fun a=>fL f l fun l=>K (a :: l)
theorem fL_eq {f:α→(α→γ)→γ} (hf:∀ a K,f a K=K a):∀ (l:List α) (K:List α→γ),fL f l K=K l
  | [],K=>rfl
  | a :: l,K=>by rw [fL,hf,fL_eq hf l]
noncomputable def fN (n:Nat) (K:Nat→γ):γ:=qdf n K
noncomputable def fB (b:Bool) (K:Bool→γ):γ:=match b with
  | true=>K true
  | false=>K false
noncomputable def fM (o:Option Nat) (K:Option Nat→γ):γ:=match o with
  | some n=>fN n fun n=>K (some n)
  | none=>K none
noncomputable def fI (i:Int) (K:Int→γ):γ:=match i with
  | .ofNat n=>fN n fun n=>K (.ofNat n)
  | .negSucc n=>fN n fun n=>K (.negSucc n)
noncomputable def fV (v:Value) (K:Value→γ):γ:=match v with
  | .int k i=>fI i fun i=>K (.int k i)
  | v=>K v
noncomputable def fP (p:Nat×Nat) (K:Nat×Nat→γ):γ:=match p with
  | (a,b)=>fN a fun a=>fN b fun b=>K (a,b)
noncomputable def fO (o:Operand) (K:Operand→γ):γ:=match o with
  | .tmp t=>fN t fun t=>K (.tmp t)
  | .func t=>fN t fun t=>K (.func t)
  | .const v=>fV v fun v=>K (.const v)
  | .global g=>fN g fun g=>K (.global g)
noncomputable def fX (x:XO) (K:XO→γ):γ:=match x with
  | .bin op m=>fN m fun m=>K (.bin op m)
  | .ext ix=>fN ix fun ix=>K (.ext ix)
  | .ld sz=>fM sz fun sz=>K (.ld sz)
  | .new c e=>fL fV c fun c=>fN e fun e=>K (.new c e)
  | .box e=>fN e fun e=>K (.box e)
  | .st sz=>fN sz fun sz=>K (.st sz)
  | .fld off=>fN off fun off=>K (.fld off)
  | .ixA len sz=>fN len fun len=>fN sz fun sz=>K (.ixA len sz)
  | .ixS sz=>fN sz fun sz=>K (.ixS sz)
  | .slA len sz lo hi=>fN len fun len=>fN sz fun sz=>fB lo fun lo=>fB hi fun hi=>K (.slA len sz lo hi)
  | .slS sz lo hi=>fN sz fun sz=>fB lo fun lo=>fB hi fun hi=>K (.slS sz lo hi)
  | .make z sz b e=>fV z fun z=>fN sz fun sz=>fN b fun b=>fN e fun e=>K (.make z sz b e)
  | .bsl i len pl e=>fL fV i fun i=>fN len fun len=>fL fP pl fun pl=>fN e fun e=>K (.bsl i len pl e)
  | .fn g nf nc=>fN g fun g=>fN nf fun nf=>fN nc fun nc=>K (.fn g nf nc)
  | .lenA n=>fN n fun n=>K (.lenA n)
  | .app e sz b=>fN e fun e=>fN sz fun sz=>fN b fun b=>K (.app e sz b)
  | .bld i pl=>fL fV i fun i=>fL fP pl fun pl=>K (.bld i pl)
  | .prt sz off=>fM sz fun sz=>fN off fun off=>K (.prt sz off)
  | .ixV len es sz=>fN len fun len=>fN es fun es=>fM sz fun sz=>K (.ixV len es sz)
  | .cpy sz=>fN sz fun sz=>K (.cpy sz)
  | .apz z sz b e=>fL fV z fun z=>fN sz fun sz=>fN b fun b=>fN e fun e=>K (.apz z sz b e)
  | .ext3 b g=>fB b fun b=>fN g fun g=>K (.ext3 b g)
  | .sl3 sz=>fN sz fun sz=>K (.sl3 sz)
  | .clr z=>fL fV z fun z=>K (.clr z)
  | x=>K x
noncomputable def fG (g:Option (Nat×Bool)) (K:Option (Nat×Bool)→γ):γ:=match g with
  | some (t,b)=>fN t fun t=>fB b fun b=>K (some (t,b))
  | none=>K none
noncomputable def fS (i:XS) (K:XS→γ):γ:=match i with
  | ⟨g,x,xs,d,j,k,c⟩=>fG g fun g=>fX x fun x=>fL fO xs fun xs=>fM d fun d=>fN j fun j=>fB k fun k=>fL fN c fun c=>K ⟨g,x,xs,d,j,k,c⟩
noncomputable def fC:XC→(XC→γ)→γ
  | .skip,K=>K .skip
  | .exit i,K=>fN i fun i=>K (.exit i)
  | .ret,K=>K .ret
  | .seq a b,K=>fC a fun a=>fC b fun b=>K (.seq a b)
  | .cond c a b,K=>fO c fun c=>fC a fun a=>fC b fun b=>K (.cond c a b)
  | .block i a,K=>fN i fun i=>fC a fun a=>K (.block i a)
  | .loop a,K=>fC a fun a=>K (.loop a)
  | .reg l,K=>fL fS l fun l=>K (.reg l)
  | .range f ps xa xb,K=>K (.range f ps xa xb)
noncomputable def fR (r:XRes) (K:XRes→γ):γ:=match r with
  | .tmp t=>fN t fun t=>K (.tmp t)
  | .cell a t=>fN a fun a=>fM t fun t=>K (.cell a t)
theorem qjq (n:Nat) (K:Nat→γ):fN n K=K n:=qf3 n K
theorem fB_eq (b:Bool) (K:Bool→γ):fB b K=K b:=by cases b<;>rfl
theorem fM_eq (o:Option Nat) (K:Option Nat→γ):fM o K=K o:=by
  cases o with
  | none=>rfl
  | some n=>exact qjq n _
theorem fI_eq (i:Int) (K:Int→γ):fI i K=K i:=by
  cases i with
  | ofNat n=>exact qjq n _
  | negSucc n=>exact qjq n _
theorem fV_eq (v:Value) (K:Value→γ):fV v K=K v:=by
  unfold fV
  split
  · exact fI_eq _ _
  · rfl
theorem fP_eq (p:Nat×Nat) (K:Nat×Nat→γ):fP p K=K p:=by
  obtain⟨a,b⟩:=p
  unfold fP
  simp only [qjq]
theorem fO_eq (o:Operand) (K:Operand→γ):fO o K=K o:=by
  cases o with
  | const v=>unfold fO;exact fV_eq v _
  | tmp t=>exact qjq t _
  | func t=>exact qjq t _
  | global t=>exact qjq t _
theorem fX_eq (x:XO) (K:XO→γ):fX x K=K x:=by
  unfold fX
  split<;>simp only [qjq,fB_eq,fM_eq,fV_eq,fL_eq fV_eq,fL_eq fP_eq]
theorem fG_eq (g:Option (Nat×Bool)) (K:Option (Nat×Bool)→γ):fG g K=K g:=by
  rcases g with _|⟨t,b⟩
  · rfl
  · unfold fG;simp only [qjq,fB_eq]
theorem fS_eq (i:XS) (K:XS→γ):fS i K=K i:=by
  obtain⟨g,x,xs,d,j,k,c⟩:=i
  unfold fS
  simp only [qjq,fB_eq,fM_eq,fG_eq,fX_eq,fL_eq fO_eq,fL_eq qjq]
theorem fC_eq (c:XC):∀ K:XC→γ,fC c K=K c:=by
  induction c with
  | seq a b iha ihb=>intro K;rw [fC,iha,ihb]
  | cond c a b iha ihb=>intro K;rw [fC,fO_eq,iha,ihb]
  | block i a ih=>intro K;rw [fC,qjq,ih]
  | loop a ih=>intro K;rw [fC,ih]
  | reg l=>intro K;rw [fC,fL_eq fS_eq]
  | exit i=>intro K;rw [fC,qjq]
  | _=>intro K;rfl
theorem fR_eq (r:XRes) (K:XRes→γ):fR r K=K r:=by
  cases r with
  | tmp t=>exact qjq t _
  | cell a t=>unfold fR;simp only [qjq,fM_eq]
noncomputable def xfF (P:Program) (g:FuncId):Option XF:=match qb8 P g with
  | some ⟨n,r,c⟩=>fN n fun n=>fL fR r fun r=>fC c fun c=>some ⟨n,r,c⟩
  | none=>none
theorem xfF_ok {P:Program} (g:FuncId) (xf:XF) (h:xfF P g=some xf):qb8 P g=some xf:=by
  unfold xfF at h
  split at h
  · rename_i e
    simp only [qjq,fL_eq fR_eq,fC_eq] at h
    rw [e,h]
  · cases h
end Tf
end Go.Sim
