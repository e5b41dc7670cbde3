/- Part of the proof: ShD. -/
import Derived.Test.YtbfpepbfpebmmaaGreatMMatSimSTToShC
set_option linter.all false
namespace Go.Sim
open Go
def modsS (m:Nat):List XS→Nat
  | []=>m
  | i :: l=>modsS (match i.dst with|some d=>m ||| 2 ^ d|none=>m) l
def qrq:XC→Nat
  | .seq a b=>qrq a ||| qrq b
  | .cond _ a b=>qrq a ||| qrq b
  | .block _ a=>qrq a
  | .loop a=>qrq a
  | .reg l=>modsS 0 l
  | _=>0
def toD:XC→Nat→List (Nat×List Tmp)→(XD→Nat→List (Nat×List Tmp)→Option XD)→Option XD
  | .skip,k,ms,K=>K .skip k ms
  | .exit i,k,ms,K=>K (.exit i) k ms
  | .ret,k,ms,K=>K .ret k ms
  | .reg l,k,ms,K=>K (.reg l) k ms
  | .cond c a b,k,ms,K=>toD a k ms fun a' k ms=>toD b k ms fun b' k ms=>K (.cond c a' b') k ms
  | .block i a,k,ms,K=>toD a k ms fun a' k ms=>K (.block i a') k ms
  | .seq a b,k,ms,K=>match ms with
    | (j,l) :: ms'=>bif Nat.beq j k then toD a (k+1) ms' fun a' k ms=>toD b k ms fun b' k ms=>K (.join l (qrq a) a' b') k ms
      else toD a (k+1) ms fun a' k ms=>toD b k ms fun b' k ms=>K (.seq a' b') k ms
    | []=>toD a (k+1) [] fun a' k ms=>toD b k ms fun b' k ms=>K (.seq a' b') k ms
  | .loop a,k,ms,K=>match ms with
    | (j,l) :: ms'=>toD a (k+1) ms' fun a' k ms=>K (.loop l (qrq a) a') k ms
    | []=>none
  | .range _ _ _ _,_,_,_=>none
theorem XC.within_mono {p q:Nat→Bool} (h:∀ t,p t=true→q t=true) (c:XC):c.within p=true→c.within q=true:=by
  induction c with
  | seq a b iha ihb=>simp only [XC.within,Bool.and_eq_true];exact fun hx=>⟨iha hx.1,ihb hx.2⟩
  | cond _ a b iha ihb=>simp only [XC.within,Bool.and_eq_true];exact fun hx=>⟨iha hx.1,ihb hx.2⟩
  | block _ a ih=>exact ih
  | loop a ih=>exact ih
  | reg l =>
    simp only [XC.within,List.all_eq_true]
    intro hx i hi
    have:=hx i hi
    revert this
    cases i.dst with
    | none=>exact fun h=>h
    | some d=>exact h d
  | range=>exact id
  | _=>exact id
theorem modsS_le:∀ (l:List XS) (m t:Nat),m.testBit t=true→(modsS m l).testBit t=true
  | [],_,_,h=>h
  | i :: l,m,t,h=>by
    unfold modsS
    refine modsS_le l _ t ?_
    cases i.dst with
    | none=>exact h
    | some d=>simp [Nat.testBit_or,h]
theorem modsS_in:∀ (l:List XS) (m:Nat),(l.all fun i=>dstIn (modsS m l).testBit i.dst)=true
  | [],_=>rfl
  | i :: l,m=>by
    simp only [List.all_cons,Bool.and_eq_true]
    refine⟨?_,?_⟩
    · unfold modsS
      cases hd:i.dst with
      | none=>rfl
      | some d =>
        refine modsS_le l _ d ?_
        simp [Nat.testBit_or,Nat.testBit_two_pow]
    · unfold modsS
      exact modsS_in l _
def XC.noR:XC→Bool
  | .seq a b=>a.noR && b.noR
  | .cond _ a b=>a.noR && b.noR
  | .block _ a=>a.noR
  | .loop a=>a.noR
  | .range _ _ _ _=>false
  | _=>true
theorem modsX_in (c:XC):c.noR=true→c.within (qrq c).testBit=true:=by
  induction c with
  | seq a b iha ihb =>
    simp only [XC.within,XC.noR,Bool.and_eq_true,qrq]
    exact fun h=>⟨XC.within_mono (fun t ht=>by simp [Nat.testBit_or,ht]) a (iha h.1),XC.within_mono (fun t ht=>by simp [Nat.testBit_or,ht]) b (ihb h.2)⟩
  | cond _ a b iha ihb =>
    simp only [XC.within,XC.noR,Bool.and_eq_true,qrq]
    exact fun h=>⟨XC.within_mono (fun t ht=>by simp [Nat.testBit_or,ht]) a (iha h.1),XC.within_mono (fun t ht=>by simp [Nat.testBit_or,ht]) b (ihb h.2)⟩
  | block _ a ih=>exact ih
  | loop a ih=>exact ih
  | reg l=>exact fun _=>modsS_in l 0
  | range=>intro h;cases h
  | _=>exact fun _=>rfl
theorem toD_ok (c:XC):∀ {k:Nat} {ms:List (Nat×List Tmp)} {K:XD→Nat→List (Nat×List Tmp)→Option XD} {d:XD},toD c k ms K=some d→∃ c' k' ms',K c' k' ms'=some d∧c'.er=c∧c'.ok=true∧c.noR=true:=by
  induction c with
  | skip=>intro k ms K d h;exact⟨_,_,_,h,rfl,rfl,rfl⟩
  | exit i=>intro k ms K d h;exact⟨_,_,_,h,rfl,rfl,rfl⟩
  | ret=>intro k ms K d h;exact⟨_,_,_,h,rfl,rfl,rfl⟩
  | reg l=>intro k ms K d h;exact⟨_,_,_,h,rfl,rfl,rfl⟩
  | cond c a b iha ihb =>
    intro k ms K d h
    obtain⟨a',_,_,h,ea,oa,na⟩:=iha h
    obtain⟨b',_,_,h,eb,ob,nb⟩:=ihb h
    exact⟨_,_,_,h,by rw [XD.er,ea,eb],by rw [XD.ok,oa,ob];rfl,by rw [XC.noR,na,nb];rfl⟩
  | block i a iha =>
    intro k ms K d h
    obtain⟨a',_,_,h,ea,oa,na⟩:=iha h
    exact⟨_,_,_,h,by rw [XD.er,ea],oa,na⟩
  | seq a b iha ihb =>
    intro k ms K d h
    have pl:∀ ms,(toD a (k+1) ms fun a' k ms=>toD b k ms fun b' k ms=>K (.seq a' b') k ms)=some d→∃ c' k' ms',K c' k' ms'=some d∧c'.er=.seq a b∧c'.ok=true∧(XC.seq a b).noR=true:=by
      intro ms h
      obtain⟨a',_,_,h,ea,oa,na⟩:=iha h
      obtain⟨b',_,_,h,eb,ob,nb⟩:=ihb h
      exact⟨_,_,_,h,by rw [XD.er,ea,eb],by rw [XD.ok,oa,ob];rfl,by rw [XC.noR,na,nb];rfl⟩
    cases ms with
    | nil=>exact pl _ h
    | cons m ms =>
      obtain⟨j,l⟩:=m
      unfold toD at h
      dsimp only at h
      cases hb:Nat.beq j k with
      | false=>rw [hb] at h;exact pl _ h
      | true =>
        rw [hb] at h
        obtain⟨a',_,_,h,ea,oa,na⟩:=iha h
        obtain⟨b',_,_,h,eb,ob,nb⟩:=ihb h
        exact⟨_,_,_,h,by rw [XD.er,ea,eb],by rw [XD.ok,oa,ob,ea,modsX_in a na];rfl,by rw [XC.noR,na,nb];rfl⟩
  | loop a iha =>
    intro k ms K d h
    cases ms with
    | nil=>cases h
    | cons m ms =>
      obtain⟨a',_,_,h,ea,oa,na⟩:=iha h
      exact⟨_,_,_,h,by rw [XD.er,ea],by rw [XD.ok,oa,ea,modsX_in a na];rfl,na⟩
  | range=>intro k ms K d h;cases h
def XMh (P:Program) (f:FuncId) (ms:List (Nat×List Tmp)) (args:List Value) (H:AH) (R:Value→AH→Prop):Prop:=
  match qb8 P f with
  | some ⟨n,res,c⟩=>match toD c 0 ms (fun d _ _=>some d) with
    | some d=>bif Nat.ble args.length n then X2 P d ⟨env0 args,[]⟩ H (bodyY res R) else False
    | none=>False
  | none=>False
theorem FN.of_XM {P:Program} (hm:P.follows .mixedOrders=true) {f:FuncId} {ms:List (Nat×List Tmp)} {args:List Value} {H:AH} {R:Value→AH→Prop} (h:XMh P f ms args H R):FN P f args H R:=by
  unfold XMh at h
  split at h
  · rename_i n res c hf
    split at h
    · rename_i d hd
      cases hn:Nat.ble args.length n with
      | false=>rw [hn] at h;exact h.elim
      | true =>
        rw [hn] at h
        obtain⟨c',_,_,e,er,ok,_⟩:=toD_ok c hd
        cases e
        rw [←er] at hf
        exact FN.of_XD hm hf ok (Nat.le_of_ble_eq_true hn) h
    · exact h.elim
  · exact h.elim
end Go.Sim
