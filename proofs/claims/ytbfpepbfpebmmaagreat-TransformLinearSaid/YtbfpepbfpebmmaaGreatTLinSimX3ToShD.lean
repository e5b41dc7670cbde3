/- Part of the proof: SimX3, SimTf, ShD. -/
import Derived.Test.YtbfpepbfpebmmaaGreatTLinSimWToSimX2
import Derived.Test.YtbfpepbfpebmmaaGreatTLinSimSTToShC
set_option linter.all false
namespace Go.Sim
open Go
theorem known_ofM {P:Program} (hm:P.follows .mixedOrders=true) {T:FuncId→Option XF} (hT:∀ g xf,T g=some xf→qb3 P g=some xf) {O:qf7} (hO:CallOk P O) {wr:FuncId→Bool} {L d:Nat} {g:FuncId} {args:List Value} {kr:KRes}
    (hg:args.all ground=true) (h:kChk (callM T O wr L d 0 g args []) kr=true):qmq P g args kr:=by
  intro H
  unfold kChk at h
  split at h
  · cases h
  · rename_i v J hv
    have hF:=(callM_ok hm hT hO L d 0 g args [] v J (Nat.zero_le _) hv).1
    split at h
    · rename_i w
      rw [Bool.and_eq_true] at h
      have:=eqW_eq h.1
      subst this
      exact known_val hg h.2 hF H
    · rename_i l c x
      rw [Bool.and_eq_true] at h
      have h1:=eqW_eq h.1
      obtain⟨h2,h3⟩:=eqB_eq h.2
      exact qkj (mk:=(KRes.row l c x).mk) hg KRes.mk_row h3 h2 (hF.mono (by rintro _ _ ⟨rfl,rfl⟩;exact⟨h1,rfl⟩)) H
    · rename_i p e n c er x
      rw [Bool.and_eq_true] at h
      have h1:=eqW_eq h.1
      obtain⟨h2,h3⟩:=eqB_eq h.2
      exact qkj (mk:=(KRes.fld p e n c er x).mk) hg KRes.mk_fld h3 h2 (hF.mono (by rintro _ _ ⟨rfl,rfl⟩;exact⟨h1,rfl⟩)) H
end Go.Sim

namespace Go.Sim
open Go
namespace Tf
variable {γ α:Type}
noncomputable def fL (f:α→(α→γ)→γ):List α→(List α→γ)→γ
  | [],K=>K []
  | a :: l,K=>f a fun a=>fL f l fun l=>K (a :: l)
theorem fL_eq {f:α→(α→γ)→γ} (hf:∀ a K,f a K=K a):∀ (l:List α) (K:List α→γ),fL f l K=K l
  | [],K=>rfl
  | a :: l,K=>by rw [fL,hf,fL_eq hf l]
noncomputable def fN (n:Nat) (K:Nat→γ):γ:=qdv n K
noncomputable def fB (b:Bool) (K:Bool→γ):γ:=match b with
  | true=>K true
  | false=>K false
noncomputable def fM (o:Option Nat) (K:Option Nat→γ):γ:=match o with
  | some n=>fN n fun n=>K (some n)
  | none=>K none
noncomputable def fI (i:Int) (K:Int→γ):γ:=match i with
  | .ofNat n=>fN n fun n=>K (.ofNat n)
  | .negSucc n=>fN n fun n=>K (.negSucc n)
noncomputable def fV (v:Value) (K:Value→γ):γ:=match v with
  | .int k i=>fI i fun i=>K (.int k i)
  | v=>K v
noncomputable def fP (p:Nat×Nat) (K:Nat×Nat→γ):γ:=match p with
  | (a,b)=>fN a fun a=>fN b fun b=>K (a,b)
noncomputable def fO (o:Operand) (K:Operand→γ):γ:=match o with
  | .tmp t=>fN t fun t=>K (.tmp t)
  | .func t=>fN t fun t=>K (.func t)
  | .const v=>fV v fun v=>K (.const v)
  | .global g=>fN g fun g=>K (.global g)
noncomputable def fX (x:XO) (K:XO→γ):γ:=match x with
  | .bin op m=>fN m fun m=>K (.bin op m)
  | .ext ix=>fN ix fun ix=>K (.ext ix)
  | .ld sz=>fM sz fun sz=>K (.ld sz)
  | .new c e=>fL fV c fun c=>fN e fun e=>K (.new c e)
  | .box e=>fN e fun e=>K (.box e)
  | .st sz=>fN sz fun sz=>K (.st sz)
  | .fld off=>fN off fun off=>K (.fld off)
  | .ixA len sz=>fN len fun len=>fN sz fun sz=>K (.ixA len sz)
  | .ixS sz=>fN sz fun sz=>K (.ixS sz)
  | .slA len sz lo hi=>fN len fun len=>fN sz fun sz=>fB lo fun lo=>fB hi fun hi=>K (.slA len sz lo hi)
  | .slS sz lo hi=>fN sz fun sz=>fB lo fun lo=>fB hi fun hi=>K (.slS sz lo hi)
  | .make z sz b e=>fV z fun z=>fN sz fun sz=>fN b fun b=>fN e fun e=>K (.make z sz b e)
  | .bsl i len pl e=>fL fV i fun i=>fN len fun len=>fL fP pl fun pl=>fN e fun e=>K (.bsl i len pl e)
  | .fn g nf nc=>fN g fun g=>fN nf fun nf=>fN nc fun nc=>K (.fn g nf nc)
  | .lenA n=>fN n fun n=>K (.lenA n)
  | .app e sz b=>fN e fun e=>fN sz fun sz=>fN b fun b=>K (.app e sz b)
  | .bld i pl=>fL fV i fun i=>fL fP pl fun pl=>K (.bld i pl)
  | .prt sz off=>fM sz fun sz=>fN off fun off=>K (.prt sz off)
  | .ixV len es sz=>fN len fun len=>fN es fun es=>fM sz fun sz=>K (.ixV len es sz)
  | .cpy sz=>fN sz fun sz=>K (.cpy sz)
  | .apz z sz b e=>fL fV z fun z=>fN sz fun sz=>fN b fun b=>fN e fun e=>K (.apz z sz b e)
  | .ext3 b g=>fB b fun b=>fN g fun g=>K (.ext3 b g)
  | .sl3 sz=>fN sz fun sz=>K (.sl3 sz)
  | .clr z=>fL fV z fun z=>K (.clr z)
  | x=>K x
noncomputable def fG (g:Option (Nat×Bool)) (K:Option (Nat×Bool)→γ):γ:=match g with
  | some (t,b)=>fN t fun t=>fB b fun b=>K (some (t,b))
  | none=>K none
noncomputable def fS (i:XS) (K:XS→γ):γ:=match i with
  | ⟨g,x,xs,d,j,k,c⟩=>fG g fun g=>fX x fun x=>fL fO xs fun xs=>fM d fun d=>fN j fun j=>fB k fun k=>fL fN c fun c=>K ⟨g,x,xs,d,j,k,c⟩
noncomputable def fC:XC→(XC→γ)→γ
  | .skip,K=>K .skip
  | .exit i,K=>fN i fun i=>K (.exit i)
  | .ret,K=>K .ret
  | .seq a b,K=>fC a fun a=>fC b fun b=>K (.seq a b)
  | .cond c a b,K=>fO c fun c=>fC a fun a=>fC b fun b=>K (.cond c a b)
  | .block i a,K=>fN i fun i=>fC a fun a=>K (.block i a)
  | .loop a,K=>fC a fun a=>K (.loop a)
  | .reg l,K=>fL fS l fun l=>K (.reg l)
  | .range f ps xa xb,K=>K (.range f ps xa xb)
noncomputable def fR (r:XRes) (K:XRes→γ):γ:=match r with
  | .tmp t=>fN t fun t=>K (.tmp t)
  | .cell a t=>fN a fun a=>fM t fun t=>K (.cell a t)
theorem qjb (n:Nat) (K:Nat→γ):fN n K=K n:=qd2 n K
theorem fB_eq (b:Bool) (K:Bool→γ):fB b K=K b:=by cases b<;>rfl
theorem fM_eq (o:Option Nat) (K:Option Nat→γ):fM o K=K o:=by
  cases o with
  | none=>rfl
  | some n=>exact qjb n _
theorem fI_eq (i:Int) (K:Int→γ):fI i K=K i:=by
  cases i with
  | ofNat n=>exact qjb n _
  | negSucc n=>exact qjb n _
theorem fV_eq (v:Value) (K:Value→γ):fV v K=K v:=by
  unfold fV
  split
  · exact fI_eq _ _
  · rfl
theorem fP_eq (p:Nat×Nat) (K:Nat×Nat→γ):fP p K=K p:=by
  obtain⟨a,b⟩:=p
  unfold fP
  simp only [qjb]
theorem fO_eq (o:Operand) (K:Operand→γ):fO o K=K o:=by
  cases o with
  | const v=>unfold fO;exact fV_eq v _
  | tmp t=>exact qjb t _
  | func t=>exact qjb t _
  | global t=>exact qjb t _
theorem fX_eq (x:XO) (K:XO→γ):fX x K=K x:=by
  unfold fX
  split<;>simp only [qjb,fB_eq,fM_eq,fV_eq,fL_eq fV_eq,fL_eq fP_eq]
theorem fG_eq (g:Option (Nat×Bool)) (K:Option (Nat×Bool)→γ):fG g K=K g:=by
  rcases g with _|⟨t,b⟩
  · rfl
  · unfold fG;simp only [qjb,fB_eq]
theorem fS_eq (i:XS) (K:XS→γ):fS i K=K i:=by
  obtain⟨g,x,xs,d,j,k,c⟩:=i
  unfold fS
  simp only [qjb,fB_eq,fM_eq,fG_eq,fX_eq,fL_eq fO_eq,fL_eq qjb]
theorem fC_eq (c:XC):∀ K:XC→γ,fC c K=K c:=by
  induction c with
  | seq a b iha ihb=>intro K;rw [fC,iha,ihb]
  | cond c a b iha ihb=>intro K;rw [fC,fO_eq,iha,ihb]
  | block i a ih=>intro K;rw [fC,qjb,ih]
  | loop a ih=>intro K;rw [fC,ih]
  | reg l=>intro K;rw [fC,fL_eq fS_eq]
  | exit i=>intro K;rw [fC,qjb]
  | _=>intro K;rfl
theorem fR_eq (r:XRes) (K:XRes→γ):fR r K=K r:=by
  cases r with
  | tmp t=>exact qjb t _
  | cell a t=>unfold fR;simp only [qjb,fM_eq]
noncomputable def xfF (P:Program) (g:FuncId):Option XF:=match qb3 P g with
  | some ⟨n,r,c⟩=>fN n fun n=>fL fR r fun r=>fC c fun c=>some ⟨n,r,c⟩
  | none=>none
theorem xfF_ok {P:Program} (g:FuncId) (xf:XF) (h:xfF P g=some xf):qb3 P g=some xf:=by
  unfold xfF at h
  split at h
  · rename_i e
    simp only [qjb,fL_eq fR_eq,fC_eq] at h
    rw [e,h]
  · cases h
end Tf
end Go.Sim

namespace Go.Sim
open Go
def modsS (m:Nat):List XS→Nat
  | []=>m
  | i :: l=>modsS (match i.dst with|some d=>m ||| 2 ^ d|none=>m) l
def qq2:XC→Nat
  | .seq a b=>qq2 a ||| qq2 b
  | .cond _ a b=>qq2 a ||| qq2 b
  | .block _ a=>qq2 a
  | .loop a=>qq2 a
  | .reg l=>modsS 0 l
  | _=>0
def toD:XC→Nat→List (Nat×List Tmp)→(XD→Nat→List (Nat×List Tmp)→Option XD)→Option XD
  | .skip,k,ms,K=>K .skip k ms
  | .exit i,k,ms,K=>K (.exit i) k ms
  | .ret,k,ms,K=>K .ret k ms
  | .reg l,k,ms,K=>K (.reg l) k ms
  | .cond c a b,k,ms,K=>toD a k ms fun a' k ms=>toD b k ms fun b' k ms=>K (.cond c a' b') k ms
  | .block i a,k,ms,K=>toD a k ms fun a' k ms=>K (.block i a') k ms
  | .seq a b,k,ms,K=>match ms with
    | (j,l) :: ms'=>bif Nat.beq j k then toD a (k+1) ms' fun a' k ms=>toD b k ms fun b' k ms=>K (.join l (qq2 a) a' b') k ms
      else toD a (k+1) ms fun a' k ms=>toD b k ms fun b' k ms=>K (.seq a' b') k ms
    | []=>toD a (k+1) [] fun a' k ms=>toD b k ms fun b' k ms=>K (.seq a' b') k ms
  | .loop a,k,ms,K=>match ms with
    | (j,l) :: ms'=>toD a (k+1) ms' fun a' k ms=>K (.loop l (qq2 a) a') k ms
    | []=>none
  | .range _ _ _ _,_,_,_=>none
theorem XC.within_mono {p q:Nat→Bool} (h:∀ t,p t=true→q t=true) (c:XC):c.within p=true→c.within q=true:=by
  induction c with
  | seq a b iha ihb=>simp only [XC.within,Bool.and_eq_true];exact fun hx=>⟨iha hx.1,ihb hx.2⟩
  | cond _ a b iha ihb=>simp only [XC.within,Bool.and_eq_true];exact fun hx=>⟨iha hx.1,ihb hx.2⟩
  | block _ a ih=>exact ih
  | loop a ih=>exact ih
  | reg l =>
    simp only [XC.within,List.all_eq_true]
    intro hx i hi
    have:=hx i hi
    revert this
    cases i.dst with
    | none=>exact fun h=>h
    | some d=>exact h d
  | range=>exact id
  | _=>exact id
theorem modsS_le:∀ (l:List XS) (m t:Nat),m.testBit t=true→(modsS m l).testBit t=true
  | [],_,_,h=>h
  | i :: l,m,t,h=>by
    unfold modsS
    refine modsS_le l _ t ?_
    cases i.dst with
    | none=>exact h
    | some d=>simp [Nat.testBit_or,h]
theorem modsS_in:∀ (l:List XS) (m:Nat),(l.all fun i=>dstIn (modsS m l).testBit i.dst)=true
  | [],_=>rfl
  | i :: l,m=>by
    simp only [List.all_cons,Bool.and_eq_true]
    refine⟨?_,?_⟩
    · unfold modsS
      cases hd:i.dst with
      | none=>rfl
      | some d =>
        refine modsS_le l _ d ?_
        simp [Nat.testBit_or,Nat.testBit_two_pow]
    · unfold modsS
      exact modsS_in l _
def XC.noR:XC→Bool
  | .seq a b=>a.noR && b.noR
  | .cond _ a b=>a.noR && b.noR
  | .block _ a=>a.noR
  | .loop a=>a.noR
  | .range _ _ _ _=>false
  | _=>true
theorem modsX_in (c:XC):c.noR=true→c.within (qq2 c).testBit=true:=by
  induction c with
  | seq a b iha ihb =>
    simp only [XC.within,XC.noR,Bool.and_eq_true,qq2]
    exact fun h=>⟨XC.within_mono (fun t ht=>by simp [Nat.testBit_or,ht]) a (iha h.1),XC.within_mono (fun t ht=>by simp [Nat.testBit_or,ht]) b (ihb h.2)⟩
  | cond _ a b iha ihb =>
    simp only [XC.within,XC.noR,Bool.and_eq_true,qq2]
    exact fun h=>⟨XC.within_mono (fun t ht=>by simp [Nat.testBit_or,ht]) a (iha h.1),XC.within_mono (fun t ht=>by simp [Nat.testBit_or,ht]) b (ihb h.2)⟩
  | block _ a ih=>exact ih
  | loop a ih=>exact ih
  | reg l=>exact fun _=>modsS_in l 0
  | range=>intro h;cases h
  | _=>exact fun _=>rfl
theorem toD_ok (c:XC):∀ {k:Nat} {ms:List (Nat×List Tmp)} {K:XD→Nat→List (Nat×List Tmp)→Option XD} {d:XD},toD c k ms K=some d→∃ c' k' ms',K c' k' ms'=some d∧c'.er=c∧c'.ok=true∧c.noR=true:=by
  induction c with
  | skip=>intro k ms K d h;exact⟨_,_,_,h,rfl,rfl,rfl⟩
  | exit i=>intro k ms K d h;exact⟨_,_,_,h,rfl,rfl,rfl⟩
  | ret=>intro k ms K d h;exact⟨_,_,_,h,rfl,rfl,rfl⟩
  | reg l=>intro k ms K d h;exact⟨_,_,_,h,rfl,rfl,rfl⟩
  | cond c a b iha ihb =>
    intro k ms K d h
    obtain⟨a',_,_,h,ea,oa,na⟩:=iha h
    obtain⟨b',_,_,h,eb,ob,nb⟩:=ihb h
    exact⟨_,_,_,h,by rw [XD.er,ea,eb],by rw [XD.ok,oa,ob];rfl,by rw [XC.noR,na,nb];rfl⟩
  | block i a iha =>
    intro k ms K d h
    obtain⟨a',_,_,h,ea,oa,na⟩:=iha h
    exact⟨_,_,_,h,by rw [XD.er,ea],oa,na⟩
  | seq a b iha ihb =>
    intro k ms K d h
    have pl:∀ ms,(toD a (k+1) ms fun a' k ms=>toD b k ms fun b' k ms=>K (.seq a' b') k ms)=some d→∃ c' k' ms',K c' k' ms'=some d∧c'.er=.seq a b∧c'.ok=true∧(XC.seq a b).noR=true:=by
      intro ms h
      obtain⟨a',_,_,h,ea,oa,na⟩:=iha h
      obtain⟨b',_,_,h,eb,ob,nb⟩:=ihb h
      exact⟨_,_,_,h,by rw [XD.er,ea,eb],by rw [XD.ok,oa,ob];rfl,by rw [XC.noR,na,nb];rfl⟩
    cases ms with
    | nil=>exact pl _ h
    | cons m ms =>
      obtain⟨j,l⟩:=m
      unfold toD at h
      dsimp only at h
      cases hb:Nat.beq j k with
      | false=>rw [hb] at h;exact pl _ h
      | true =>
        rw [hb] at h
        obtain⟨a',_,_,h,ea,oa,na⟩:=iha h
        obtain⟨b',_,_,h,eb,ob,nb⟩:=ihb h
        exact⟨_,_,_,h,by rw [XD.er,ea,eb],by rw [XD.ok,oa,ob,ea,modsX_in a na];rfl,by rw [XC.noR,na,nb];rfl⟩
  | loop a iha =>
    intro k ms K d h
    cases ms with
    | nil=>cases h
    | cons m ms =>
      obtain⟨a',_,_,h,ea,oa,na⟩:=iha h
      exact⟨_,_,_,h,by rw [XD.er,ea],by rw [XD.ok,oa,ea,modsX_in a na];rfl,na⟩
  | range=>intro k ms K d h;cases h
def XMh (P:Program) (f:FuncId) (ms:List (Nat×List Tmp)) (args:List Value) (H:AH) (R:Value→AH→Prop):Prop:=
  match qb3 P f with
  | some ⟨n,res,c⟩=>match toD c 0 ms (fun d _ _=>some d) with
    | some d=>bif Nat.ble args.length n then X2 P d ⟨env0 args,[]⟩ H (bodyY res R) else False
    | none=>False
  | none=>False
theorem FN.of_XM {P:Program} (hm:P.follows .mixedOrders=true) {f:FuncId} {ms:List (Nat×List Tmp)} {args:List Value} {H:AH} {R:Value→AH→Prop} (h:XMh P f ms args H R):FN P f args H R:=by
  unfold XMh at h
  split at h
  · rename_i n res c hf
    split at h
    · rename_i d hd
      cases hn:Nat.ble args.length n with
      | false=>rw [hn] at h;exact h.elim
      | true =>
        rw [hn] at h
        obtain⟨c',_,_,e,er,ok,_⟩:=toD_ok c hd
        cases e
        rw [←er] at hf
        exact FN.of_XD hm hf ok (Nat.le_of_ble_eq_true hn) h
    · exact h.elim
  · exact h.elim
end Go.Sim
