/- Part of the proof: SimO, SimP, SimQ, SimR, SimS, SimT, SimU, SimU2, SimV. -/
import Derived.Test.YtbfpepbfpebmmaaGreatTLinSimLToSimN
import Derived.Test.YtbfpepbfpebmmaaGreatTLinSimJ2
set_option linter.all false
namespace Go.Sim
open Go
def qcs (ops:Array Oper):Nat→List Nat
  | 0=>[]
  | j+1=>let m:=qcs ops j;m++[(qc3 ops j).foldl (fun acc k=>acc ||| 2 ^ k ||| m.getD k 0) 0]
theorem qc8 (ops:Array Oper):∀ n,(qcs ops n).length=n
  | 0=>rfl
  | n+1=>by simp [qcs,qc8 ops n]
theorem qhf (ops:Array Oper) {j:Nat}:∀ {n},j<n→(qcs ops n).getD j 0=(qcs ops (j+1)).getD j 0
  | 0,h=>by omega
  | n + 1,h=>by
    by_cases hj:j=n
    · subst hj;rfl
    · have hlt:j<n:=by omega
      rw [←qhf ops hlt]
      simp only [qcs,List.getD_eq_getElem?_getD]
      rw [List.getElem?_append_left (by rw [qc8];exact hlt)]
theorem qmt (f:Nat→Nat) (m:Nat):∀ (l:List Nat) (a:Nat),(l.foldl (fun acc k=>acc ||| 2 ^ k ||| f k) a).testBit m=(a.testBit m || l.any fun k=>k == m || (f k).testBit m)
  | [],a=>by simp
  | k :: l,a=>by
    simp only [List.foldl_cons,List.any_cons]
    rw [qmt f m l]
    simp only [Nat.testBit_or,Nat.testBit_two_pow]
    by_cases h:k=m
    · subst h;simp
    · have h2:(k == m)=false:=beq_eq_false_iff_ne.2 h
      simp [h,h2,Bool.or_assoc]
theorem masks_succ (ops:Array Oper) (j m:Nat):((qcs ops (j+1)).getD j 0).testBit m=(qc3 ops j).any fun k=>k == m || ((qcs ops j).getD k 0).testBit m:=by
  simp only [qcs,List.getD_eq_getElem?_getD]
  rw [List.getElem?_append_right (by rw [qc8];omega),qc8]
  simp only [Nat.sub_self,List.getElem?_cons_zero,Option.getD_some]
  rw [qmt]
  simp
theorem befF_masks {ops:Array Oper} (hlow:∀ j,∀ k∈qc3 ops j,k<j) (m:Nat):∀ (f j:Nat),j<f→befF ops f m j=((qcs ops (j+1)).getD j 0).testBit m
  | 0,j,h=>by omega
  | f + 1,j,h=>by
    rw [masks_succ]
    simp only [befF]
    have key:∀ k∈qc3 ops j,(k == m || befF ops f m k)=(k == m || ((qcs ops j).getD k 0).testBit m):=by
      intro k hk
      have hkj:=hlow j k hk
      rw [befF_masks hlow m f k (by omega),qhf ops hkj]
    generalize qc3 ops j=l at key
    induction l with
    | nil=>rfl
    | cons k l ih =>
      simp only [List.any_cons]
      rw [key k (by simp),ih (fun k' hk'=>key k' (by simp [hk']))]
theorem bef_masks {ops:Array Oper} (hlow:∀ j,∀ k∈qc3 ops j,k<j) (m j:Nat):bef ops m j=((qcs ops ops.size).getD j 0).testBit m:=by
  by_cases hj:j<ops.size
  · unfold bef
    rw [befF_masks hlow m _ _ hj,qhf ops hj]
  · have e:qc3 ops j=[]:=by
      unfold qc3
      rw [Array.getElem?_eq_none (by omega)]
    have e2:(qcs ops ops.size).getD j 0=0:=by
      rw [List.getD_eq_getElem?_getD,List.getElem?_eq_none (by rw [qc8];omega)]
      rfl
    rw [e2,Nat.zero_testBit]
    unfold bef
    cases ops.size<;>simp [befF,e]
def okDw (r:Nat→Nat→Bool) (ops:Array Oper) (ord:List Nat) (ch:List Nat):Bool:=
  (ord.length == ops.size && (List.range ops.size).all (fun j=>ord.contains j) && ord.all (fun j=>decide (j<ops.size))) &&
  qhd (fun a b=>!(r b a) && a != b && (!(ch.contains a) || ch.contains b || r a b) && (!(ch.contains a) || !(ch.contains b) || r a b) && (!(qc3 ops a).contains b)) ord &&
  (List.range ops.size).all (fun j=>!(qc3 ops j).contains j && (qc3 ops j).all (fun k=>decide (k<ops.size))) &&
  (List.range ops.size).all (fun j=>(List.range ops.size).all fun m=>j == m || (qcp ops j).isNone || qcp ops j != qcp ops m) &&
  (List.range ops.size).all (fun j=>(List.range ops.size).all fun m=>match qcp ops m with
    | some t=>!((looks ops j).contains t) || (m != j && (r m j || r j m))
    | none=>true)
def lowE (ops:Array Oper):Bool:=(List.range ops.size).all fun j=>(qc3 ops j).all fun k=>decide (k<j)
theorem lowE_spec {ops:Array Oper} (h:lowE ops=true):∀ j,∀ k∈qc3 ops j,k<j:=by
  intro j k hk
  by_cases hj:j<ops.size
  · have:=List.all_eq_true.1 h j (by simpa using hj)
    simpa using List.all_eq_true.1 this k hk
  · have e:qc3 ops j=[]:=by
      unfold qc3
      rw [Array.getElem?_eq_none (by omega)]
    rw [e] at hk;cases hk
def maskR (ms:List Nat) (m j:Nat):Bool:=(ms.getD j 0).testBit m
theorem okDw_masks {ops:Array Oper} {ord ch:List Nat} (hl:lowE ops=true) (h:okDw (maskR (qcs ops ops.size)) ops ord ch=true):okD ops ord ch=true:=by
  have e:maskR (qcs ops ops.size)=bef ops:=by
    funext m j
    rw [bef_masks (lowE_spec hl)]
    rfl
  rw [e] at h
  exact h
structure XS where
  g:Option (Tmp×Bool)
  x:XO
  xs:List Operand
  dst:Option Tmp
  j:Nat
  keep:Bool
  chk:List Nat
inductive XC where
  | skip
  | exit (id:Nat)
  | ret
  | seq (a b:XC)
  | cond (c:Operand) (a b:XC)
  | block (id:Nat) (a:XC)
  | loop (a:XC)
  | reg (l:List XS)
  | range (f:Operand) (ps:Array Tmp) (xa xb:XC)
inductive XK where
  | pur|load|new|act|call
  deriving DecidableEq
def XO.kind:XO→XK
  | .ld _=>.load
  | .new _ _ | .box _ | .make _ _ _ _ | .bsl _ _ _ _=>.new
  | .st _ | .app _ _ _ | .cpy _ | .apz _ _ _ _ | .clr _=>.act
  | .call=>.call
  | _=>.pur
def qc5 (g:Option (Tmp×Bool)) (s:St):Bool:=
  match g with
  | none=>true
  | some (d,want)=>match s.env d with
    | .bool b=>b == want
    | _=>false
structure PL where
  j:Nat
  sz:Option Nat
  vs:List Value
  v:Value
def chkX (c:List Nat) (D:List PL) (H:AH):Prop:=∀ p∈D,p.j∈c→qbh p.sz H p.vs=some p.v
def qpr (P:Program) (g:FuncId):Bool:=match P.funcs[g]? with
  | some fn=>fn.body.isSome && !(fn.name == "runtime.NumGoroutine")
  | none=>false
def FN (P:Program) (g:FuncId) (args:List Value) (H:AH) (R:Value→AH→Prop):Prop:=qpr P g=true∧F P g args H R
theorem FN.mono {P:Program} {f:FuncId} {args:List Value} {H:AH} {R R':Value→AH→Prop} (h:FN P f args H R) (hr:∀ v H,R v H→R' v H):FN P f args H R':=⟨h.1,h.2.mono hr⟩
def YN (P:Program) (l:Nat) (args:List Value) (H:AH) (R:Value→AH→Prop):Prop:=∃ v H',R v H'∧YSim P l args H v H'
theorem YN.mono {P:Program} {l:Nat} {args:List Value} {H:AH} {R R':Value→AH→Prop} (h:YN P l args H R) (hr:∀ v H,R v H→R' v H):YN P l args H R':=
  let ⟨v,H',r,q⟩:=h;⟨v,H',hr _ _ r,q⟩
def qjd (P:Program) (vs:List Value) (H:AH) (R:Value→AH→Prop):Prop:=
  match vs with
  | .func (.func g) first cap :: args=>FN P g (first.toList++args++cap.toList) H R
  | .func (.yield l) first cap :: args=>first.size=0∧cap.size=0∧YN P l args H R
  | _=>False
def qbm (P:Program):List XS→List PL→St→AH→(St→AH→Prop)→Prop
  | [],_,s,H,K=>K s H
  | i :: l,D,s,H,K =>
    if qc5 i.g s then
      match i.x.kind with
      | .pur=>∃ v,qbc i.x (i.xs.map (ev s))=some v∧qbm P l D (s.put i.dst v) H K
      | .load=>∃ sz v,i.x=.ld sz∧qbh sz H (i.xs.map (ev s))=some v∧qbm P l (if i.keep then⟨i.j,sz,i.xs.map (ev s),v⟩ :: D else D) (s.put i.dst v) H K
      | .new=>∃ c e mk,xnew i.x (i.xs.map (ev s))=some (c,e,mk)∧chkX i.chk D (H++[.cells c e none false])∧qbm P l D (s.put i.dst (mk H.length)) (H++[.cells c e none false]) K
      | .act=>∃ v H',xact i.x H (i.xs.map (ev s))=some (v,H')∧chkX i.chk D H'∧qbm P l D (s.put i.dst v) H' K
      | .call=>qjd P (i.xs.map (ev s)) H fun v H'=>chkX i.chk D H'∧qbm P l D (s.put i.dst v) H' K
    else qbm P l D (s.put i.dst undef) H K
def cguard (ops:Array Oper) (o:Oper):Option (Option (Tmp×Bool)):=
  match o.guard with
  | none=>some none
  | some (j,want)=>match (ops[j]?).bind (·.dst) with
    | some d=>some (some (d,want))
    | none=>none
theorem qjw {ops:Array Oper} {o:Oper} {g:Option (Tmp×Bool)} (h:cguard ops o=some g) (s:St):qb8 ops s o=qc5 g s:=by
  unfold cguard at h
  unfold qb8 qc5
  split at h
  · rename_i e
    cases h
    simp [e]
  · rename_i j want e
    split at h
    · rename_i d hd
      cases h
      simp only [e,hd]
      cases s.env d<;>rfl
    · cases h
def dstOk (n:Nat) (d:Option Tmp):Bool:=match d with|some t=>decide (t<n)|none=>true
theorem qmm {n:Nat} {o:Option Tmp} (h:dstOk n o=true):∀ d,o=some d→d<n:=by
  intro d hd;subst hd;simpa [dstOk] using h
def cdfr (P:Program) (o:Oper):Option XO:=
  match o.op with
  | .defer ⟨.value _,⟨[]⟩,_⟩=>some (.dfr ((List.range P.funcs.size).filter (quietB P)))
  | _=>none
theorem cdfr_eq {P:Program} {o:Oper} {x:XO} (h:cdfr P o=some x):∃ f tys,o.op=.defer ⟨.value f,#[],tys⟩∧x=.dfr ((List.range P.funcs.size).filter (quietB P)):=by
  unfold cdfr at h
  split at h
  · rename_i f tys ho
    cases h
    exact⟨f,tys,ho,rfl⟩
  · cases h
def copD (d:Bool) (P:Program) (o:Oper):Option XO:=
  match cop P o with
  | some x=>some x
  | none=>if d=true then cdfr P o else none
theorem copD_cases {d:Bool} {P:Program} {o:Oper} {x:XO} (h:copD d P o=some x):cop P o=some x∨(d=true∧cdfr P o=some x):=by
  unfold copD at h
  split at h
  · rename_i hx;cases h;exact .inl hx
  · split at h
    · rename_i hd;exact .inr ⟨hd,h⟩
    · cases h
def cstep (d:Bool) (P:Program) (n:Nat) (ops:Array Oper) (j:Nat):Option XS:=
  match ops[j]? with
  | some o=>match copD d P o,cguard ops o with
    | some x,some g=>if dstOk n o.dst then (if o.op.operands.toList.all okX then some ⟨g,x,o.op.operands.toList,o.dst,j,false,[]⟩ else some ⟨g,.bad,[],o.dst,j,false,[]⟩) else none
    | _,_=>none
  | none=>none
theorem callX_op {P:Program} {o:Oper} {vs:List Value} {H:AH} {R:Value→AH→Prop} (h:cop P o=some .call) (hc:qjd P vs H R):∃ v H',R v H'∧qfw P o vs H v H':=by
  have h:cop0 P o=some .call:=by
    rcases qgr h with h|⟨h,_⟩|⟨h,_⟩|⟨_,_,h,_⟩|⟨_,_,_,_,_,h,_⟩|⟨_,h,_⟩|⟨_,_,h,_⟩|⟨h,_⟩|⟨_,h,_⟩|⟨_,h,_⟩
    · exact h
    · cases h
    · cases h
    · cases h
    · cases h
    · cases h
    · cases h
    · cases h
    · cases h
    · cases h
  obtain⟨c,f,ho,hcal⟩:∃ c f,o.op=.call c∧c.callee=.value f:=by
    cases ho:o.op
    case call c =>
      simp only [cop0,ho] at h
      split at h
      · rename_i f hf;exact⟨c,f,rfl,hf⟩
      all_goals exfalso
      all_goals (repeat' split at h)
      all_goals first|contradiction|(cases h;done)
    all_goals exfalso
    all_goals simp only [cop0,ho] at h
    all_goals (repeat' split at h)
    all_goals first|contradiction|(cases h;done)|(simp only [Option.map_eq_some_iff] at h;obtain⟨_,_,h⟩:=h;cases h;done)
  unfold qjd at hc
  split at hc
  · rename_i g first cap args
    obtain⟨hcl,v,H',hR,hs⟩:=hc
    unfold qpr at hcl
    split at hcl
    · rename_i fn hg
      simp only [Bool.and_eq_true,Bool.not_eq_true'] at hcl
      exact⟨v,H',hR,opSim_call ho hcal hg hcl.1 hcl.2 hs⟩
    · cases hcl
  · rename_i l first cap args
    obtain⟨h1,h2,v,H',hR,hs⟩:=hc
    have e1:first = #[]:=Array.eq_empty_of_size_eq_zero h1
    have e2:cap = #[]:=Array.eq_empty_of_size_eq_zero h2
    subst e1 e2
    exact⟨v,H',hR,hs o c f ho hcal⟩
  · exact hc.elim
theorem qc6 {d:Bool} {P:Program} {n:Nat} {ro:Option Nat} (hd:d=true→ro=none) {ops:Array Oper}:∀ (l:List Nat) (xl:List XS) (D:List PL) (s:St) (H:AH) (K:St→AH→Prop),l.mapM (cstep d P n ops)=some xl→qbm P xl D s H K→opsW P n ro ops l s H K
  | [],xl,D,s,H,K,hm,h=>by
    simp at hm;subst hm;exact h
  | j :: l, xl, D,s,H,K,hm,h=>by
    simp only [List.mapM_cons,Option.bind_eq_bind,Option.bind_eq_some_iff] at hm
    obtain⟨i,h1,xl',h2,h3⟩:=hm
    cases h3
    unfold cstep at h1
    split at h1
    · rename_i o ho
      split at h1
      · rename_i x g hx hg
        split at h1
        · rename_i hok
          split at h1
          · rename_i hok2
            cases h1
            refine⟨o,ho,qmm hok,?_⟩
            have hw:=qjw hg s
            unfold qbm at h
            simp only at h
            rcases copD_cases hx with hx|⟨hd1,hx⟩
            rotate_left
            · obtain⟨f,tys,ho',rfl⟩:=cdfr_eq hx
              cases hwx:qc5 g s with
              | false =>
                rw [hwx] at h hw
                refine .inl ⟨hw,qc6 hd l xl' D _ H K h2 ?_⟩
                simpa using h
              | true =>
                rw [hwx] at h hw
                rw [if_pos rfl] at h
                obtain⟨v,q1,q2⟩:=h
                have hops:o.op.operands.toList=[f]:=by rw [ho'];simp [Op.operands,Call.operands]
                rw [hops] at q1
                simp only [List.map_cons,List.map_nil] at q1
                generalize hz:ev s f=z at q1
                cases z<;>first|(exfalso;simp [qbc] at q1;done)|skip
                rename_i fn fi ca
                cases fn<;>first|(exfalso;simp [qbc] at q1;done)|skip
                rename_i gg
                simp only [qbc] at q1
                split at q1
                · rename_i hq
                  cases q1
                  have hq':quietB P gg=true:=by
                    have:=List.contains_iff_mem.1 hq
                    exact (List.mem_filter.1 this).2
                  exact .inr (.inr ⟨hd hd1,hw,hok2,_,f,gg,fi,ca,ho',rfl,rfl,hz,fun ca' ar'=>quietB_spec hq' ca' ar',qc6 hd l xl' D _ H K h2 q2⟩)
                · cases q1
            have hnd:=cop_nd hx
            cases hwx:qc5 g s with
            | false =>
              rw [hwx] at h hw
              refine .inl ⟨hw,qc6 hd l xl' D _ H K h2 ?_⟩
              simpa using h
            | true =>
              rw [hwx] at h hw
              rw [if_pos rfl] at h
              refine .inr (.inl ⟨hw,hok2,?_⟩)
              split at h
              · obtain⟨v,q1,q2⟩:=h
                exact⟨v,H,(xpure_sim hx q1 H).op hnd,qc6 hd l xl' D _ _ K h2 q2⟩
              · obtain⟨sz,v,rfl,q1,q2⟩:=h
                exact⟨v,H,(qj0 hx q1).op hnd,qc6 hd l xl' _ _ _ K h2 q2⟩
              · obtain⟨c,e,mk,q1,_,q2⟩:=h
                exact⟨_,_,(xnew_sim hx q1).run.op hnd,qc6 hd l xl' D _ _ K h2 q2⟩
              · obtain⟨v,H',q1,_,q2⟩:=h
                exact⟨v,H',(xact_sim hx q1).op hnd,qc6 hd l xl' D _ _ K h2 q2⟩
              · rename_i hk
                have hxc:x=.call:=by cases x<;>simp [XO.kind] at hk;rfl
                subst hxc
                obtain⟨v,H',⟨_,q2⟩,q1⟩:=callX_op hx h
                exact⟨v,H',q1,qc6 hd l xl' D _ _ K h2 q2⟩
          · cases h1
            refine⟨o,ho,qmm hok,?_⟩
            have hw:=qjw hg s
            unfold qbm at h
            simp only at h
            cases hwx:qc5 g s with
            | false =>
              rw [hwx] at h hw
              refine .inl ⟨hw,qc6 hd l xl' D _ H K h2 ?_⟩
              simpa using h
            | true =>
              rw [hwx] at h
              rw [if_pos rfl] at h
              obtain⟨v,q1,_⟩:=h
              simp [qbc] at q1
        · cases h1
      · cases h1
    · cases h1
end Go.Sim

namespace Go.Sim
open Go
def isLd (P:Program) (ops:Array Oper) (j:Nat):Bool:=match ops[j]? with
  | some o=>match cop P o with
    | some x=>x.kind == .load
    | none=>false
  | none=>false
def cdraw (P:Program) (n:Nat) (ops:Array Oper) (r:Nat→Nat→Bool) (ch:List Nat):List Nat→List Nat→Option (List XS)
  | _,[]=>some []
  | before, j :: rest =>
    match ops[j]? with
    | some o => match cop P o,cguard ops o with
      | some x, some g =>
        if dstOk n o.dst && o.op.operands.toList.all okX then
          match cdraw P n ops r ch (j :: before) rest with
          | some l =>
            if ch.contains j then
              if x.kind == .new || x.kind == .act || x.kind == .call then
                some (⟨g,x,o.op.operands.toList,o.dst,j,false,before.filter fun p=>isLd P ops p && !(r p j)⟩ :: l) else none
            else if x.kind == .pur || (x.kind == .new && before.all fun c=>!(ch.contains c)) then some (⟨g,x,o.op.operands.toList,o.dst,j,false,[]⟩ :: l)
            else if x.kind == .load then some (⟨g,x,o.op.operands.toList,o.dst,j,rest.any fun c=>ch.contains c && !(r j c),[]⟩ :: l)
            else none
          | none=>none
        else none
      | _,_=>none
    | none=>none
theorem qmr {sz:Option Nat} {H:AH} {vs:List Value} {v:Value} (h:qbh sz H vs=some v) (Y:AH):qbh sz (H++Y) vs=some v:=by
  unfold qbh at h ⊢
  split at h
  · rename_i a
    split at h
    · rename_i c e o r h1 h2
      have hlt:a.block<H.length:=(List.getElem?_eq_some_iff.1 h1).1
      simp only [List.getElem?_append_left hlt,h1,h2]
      exact h
    · cases h
  · cases h
structure DLink (P:Program) (ops:Array Oper) (r:Nat→Nat→Bool) (ch before rest:List Nat) (D:List Pend) (DL:List PL) (H:AH):Prop where
  q : ∀ p∈D,p.kind=.quiet→p.j∈before∧isLd P ops p.j=true∧∃ sz,cop P p.o=some (.ld sz) ∧
    ((∃ c∈rest,c∈ch∧r p.j c=false)→(⟨p.j,sz,p.vs,p.v⟩:PL)∈DL) ∧
    ((∀ c∈before,c∉ch)→qbh sz H p.vs=some p.v)
theorem DLink.other {P:Program} {ops:Array Oper} {r:Nat→Nat→Bool} {ch before rest:List Nat} {D:List Pend} {DL:List PL} {H H':AH} {j:Nat} (h:DLink P ops r ch before (j :: rest) D DL H)
    (hH:(∀ c∈j :: before,c∉ch)→∀ sz vs v,qbh sz H vs=some v→qbh sz H' vs=some v) {p0:Pend} (hp0:p0.kind≠.quiet):DLink P ops r ch (j :: before) rest (p0 :: D) DL H':=by
  refine⟨fun p hp hk=>?_⟩
  rcases List.mem_cons.1 hp with rfl|hp
  · exact absurd hk hp0
  · obtain⟨h1,h2,sz,h3,h4,h5⟩:=h.q p hp hk
    exact⟨List.mem_cons_of_mem _ h1,h2,sz,h3,fun ⟨c,hc,hcc⟩=>h4 ⟨c,List.mem_cons_of_mem _ hc,hcc⟩,fun hb=>hH hb _ _ _ (h5 fun c hc=>hb c (List.mem_cons_of_mem _ hc))⟩
theorem DLink.chain {P:Program} {ops:Array Oper} {r:Nat→Nat→Bool} {ch before rest:List Nat} {D:List Pend} {DL:List PL} {H H':AH} {j:Nat} (h:DLink P ops r ch before (j :: rest) D DL H)
    (hj:j∈ch):DLink P ops r ch (j :: before) rest D DL H':=by
  refine⟨fun p hp hk=>?_⟩
  obtain⟨h1,h2,sz,h3,h4,h5⟩:=h.q p hp hk
  exact⟨List.mem_cons_of_mem _ h1,h2,sz,h3,fun ⟨c,hc,hcc⟩=>h4 ⟨c,List.mem_cons_of_mem _ hc,hcc⟩,fun hb=>absurd hj (hb j (by simp))⟩
theorem qck {P : Program} {n:Nat} {ops:Array Oper} {ch:List Nat}:∀ (l before:List Nat) (xl:List XS) (D:List Pend) (DL:List PL) (s:St) (H:AH) (K:St→AH→Prop),cdraw P n ops (bef ops) ch before l=some xl →
    DLink P ops (bef ops) ch before l D DL H→qbm P xl DL s H K→drawW P n ops ch l D s H K
  | [],before,xl,D,DL,s,H,K,hm,hD,h=>by
    simp [cdraw] at hm;subst hm;exact h
  | j :: l, before, xl,D,DL,s,H,K,hm,hD,h=>by
    unfold cdraw at hm
    split at hm
    · rename_i o ho
      split at hm
      · rename_i x g hx hg
        split at hm
        · rename_i hok
          simp only [Bool.and_eq_true] at hok
          have hnd:=cop_nd hx
          have hw:=qjw hg s
          split at hm
          · rename_i xl' hl
            refine⟨o,ho,qmm hok.1,?_⟩
            split at hm
            · rename_i hch
              have hjc:j∈ch:=by simpa using hch
              split at hm
              · rename_i hk
                cases hm
                unfold qbm at h
                simp only at h
                cases hwx:qc5 g s with
                | false =>
                  rw [hwx] at h hw
                  exact .inr (.inl ⟨hw,hjc,qck l _ xl' D DL _ H K hl (hD.chain hjc) (by simpa using h)⟩)
                | true =>
                  rw [hwx] at h hw
                  rw [if_pos rfl] at h
                  refine .inr (.inr ⟨hw,hok.2,.inr (.inr (.inr ⟨hjc,?_⟩))⟩)
                  have hchk:∀ H1,chkX (before.filter fun p=>isLd P ops p && !(bef ops p j)) DL H1→∀ p∈D,p.kind=.quiet→bef ops p.j j=false→qfw P p.o p.vs H1 p.v H1:=by
                    intro H1 hc p hp hpk hb
                    obtain⟨q1,q2,sz,q3,q4,_⟩:=hD.q p hp hpk
                    have:=hc _ (q4 ⟨j,by simp,hjc,hb⟩) (by simp [q1,q2,hb])
                    exact (qj0 q3 this).op (cop_nd q3)
                  split at h
                  · rename_i hkk;rw [hkk] at hk;simp at hk
                  · rename_i hkk;rw [hkk] at hk;simp at hk
                  · obtain⟨c,e,mk,q1,q0,q2⟩:=h
                    exact⟨_,_,(xnew_sim hx q1).run.op hnd,hchk _ q0,qck l _ xl' D DL _ _ K hl (hD.chain hjc) q2⟩
                  · obtain⟨v,H',q1,q0,q2⟩:=h
                    exact⟨v,H',(xact_sim hx q1).op hnd,hchk _ q0,qck l _ xl' D DL _ _ K hl (hD.chain hjc) q2⟩
                  · rename_i hk2
                    have hxc:x=.call:=by cases x<;>simp [XO.kind] at hk2;rfl
                    subst hxc
                    obtain⟨v,H',⟨q0,q2⟩,q1⟩:=callX_op hx h
                    exact⟨v,H',q1,hchk _ q0,qck l _ xl' D DL _ _ K hl (hD.chain hjc) q2⟩
              · cases hm
            · rename_i hch
              have hjc:j∉ch:=by simpa using hch
              split at hm
              · rename_i hk
                cases hm
                unfold qbm at h
                simp only at h
                cases hwx:qc5 g s with
                | false =>
                  rw [hwx] at h hw
                  exact .inl ⟨hw,hjc,qck l _ xl' _ DL _ H K hl (hD.other (fun _ _ _ _ h=>h) (by simp)) (by simpa using h)⟩
                | true =>
                  rw [hwx] at h hw
                  rw [if_pos rfl] at h
                  refine .inr (.inr ⟨hw,hok.2,?_⟩)
                  split at h
                  · obtain⟨v,q1,q2⟩:=h
                    exact .inl ⟨hjc,v,fun H=>(xpure_sim hx q1 H).op hnd,qck l _ xl' _ DL _ H K hl (hD.other (fun _ _ _ _ h=>h) (by simp)) q2⟩
                  · rename_i hkk;rw [hkk] at hk;simp at hk
                  · rename_i hkk
                    rw [hkk] at hk
                    obtain⟨c,e,mk,q1,_,q2⟩:=h
                    have hb:∀ c∈before,c∉ch:=by simpa using hk
                    refine .inr (.inr (.inl ⟨hjc,c,e,mk,xnew_sim hx q1,fun p hp hpk=>?_,qck l _ xl' _ DL _ _ K hl (hD.other (fun _ _ _ _ h=>qmr h _) (by simp)) q2⟩))
                    obtain⟨_,_,sz,q3,_,q5⟩:=hD.q p hp hpk
                    exact (qj0 q3 (qmr (q5 hb) _)).op (cop_nd q3)
                  · rename_i hkk;rw [hkk] at hk;simp at hk
                  · rename_i hkk;rw [hkk] at hk;simp at hk
              · split at hm
                · rename_i hk0 hk
                  cases hm
                  unfold qbm at h
                  simp only at h
                  cases hwx:qc5 g s with
                  | false =>
                    rw [hwx] at h hw
                    exact .inl ⟨hw,hjc,qck l _ xl' _ DL _ H K hl (hD.other (fun _ _ _ _ h=>h) (by simp)) (by simpa using h)⟩
                  | true =>
                    rw [hwx] at h hw
                    rw [if_pos rfl] at h
                    refine .inr (.inr ⟨hw,hok.2,?_⟩)
                    have hk':x.kind=.load:=by simpa using hk
                    rw [hk'] at h
                    obtain⟨sz,v,rfl,q1,q2⟩:=h
                    refine .inr (.inl ⟨hjc,v,(qj0 hx q1).op hnd,qck l _ xl' _ _ _ H K hl ⟨fun p hp hpk=>?_⟩ q2⟩)
                    rcases List.mem_cons.1 hp with rfl|hp
                    · refine⟨by simp,by simp [isLd,ho,hx,XO.kind],sz,hx,fun ⟨c,hc,hcc,hcb⟩=>?_,fun _=>q1⟩
                      rw [if_pos (by simp only [List.any_eq_true,Bool.and_eq_true,List.contains_eq_mem,decide_eq_true_eq,Bool.not_eq_true'];exact⟨c,hc,hcc,hcb⟩)]
                      exact List.mem_cons_self ..
                    · obtain⟨h1,h2,sz',h3,h4,h5⟩:=hD.q p hp hpk
                      refine⟨List.mem_cons_of_mem _ h1,h2,sz',h3,fun ⟨c,hc,hcc⟩=>?_,fun hb=>h5 fun c hc=>hb c (List.mem_cons_of_mem _ hc)⟩
                      have:=h4 ⟨c,List.mem_cons_of_mem _ hc,hcc⟩
                      split
                      · exact List.mem_cons_of_mem _ this
                      · exact this
                · cases hm
          · cases hm
        · cases hm
      · cases hm
    · cases hm
def effK (ks:List XK) (j:Nat):Bool:=match ks[j]? with|some .act=>true|some .call=>true|_=>false
def readyP (ops:Array Oper) (done:List Nat) (j:Nat):Bool:=(qc3 ops j).all fun k=>done.contains k
def planG (ops:Array Oper) (ks:List XK):Nat→List Nat→List Nat→List Nat
  | 0,_,_=>[]
  | f + 1,done,todo=>match todo.find? fun j=>!(effK ks j) && readyP ops done j with
    | some j=>j :: planG ops ks f (j :: done) (todo.erase j)
    | none=>match todo.find? fun j=>readyP ops done j with
      | some j=>j :: planG ops ks f (j :: done) (todo.erase j)
      | none=>[]
def chG (ks:List XK):Bool→List Nat→List Nat
  | _,[]=>[]
  | seen,j :: l=>if effK ks j then j :: chG ks true l else if seen && (match ks[j]? with|some .new=>true|_=>false) then j :: chG ks seen l else chG ks seen l
def creg (d:Bool) (P:Program) (n:Nat) (ops:Array Oper) (draw:Bool):Option (List XS):=
  if draw then
    let ks:=ops.toList.map fun o=>match cop P o with|some x=>x.kind|none=>.pur
    let ord:=planG ops ks ops.size [] (List.range ops.size)
    let ch:=chG ks false ord
    let ms:=qcs ops ops.size
    if lowE ops && okDw (maskR ms) ops ord ch then cdraw P n ops (maskR ms) ch [] ord else none
  else (List.range ops.size).mapM (cstep d P n ops)
theorem creg_sound {d:Bool} {P:Program} (hm:P.follows .mixedOrders=true) {n:Nat} {ro:Option Nat} (hro:d=true→ro=none) {id:Nat} {ops:Array Oper} {draw:Bool} {l:List XS} (h:creg d P n ops draw=some l) {s:St} {H:AH} {Q:AX→St→AH→Prop}
    (hs:qbm P l [] s H (Q .normal)):W P n ro (.region id ops draw) s H Q:=by
  unfold creg at h
  split at h
  · rename_i hd
    subst hd
    simp only at h
    split at h
    · rename_i hok
      simp only [Bool.and_eq_true] at hok
      have e:maskR (qcs ops ops.size)=bef ops:=by
        funext m j
        rw [bef_masks (lowE_spec hok.1)]
        rfl
      have hok2:=okDw_masks hok.1 hok.2
      rw [e] at h
      exact W.draw hm hok2 (qck _ _ _ _ _ _ _ _ h ⟨fun p hp=>by cases hp⟩ hs)
    · cases h
  · rename_i hd
    have:draw=false:=by simpa using hd
    subst this
    exact W.region (qc6 hro _ _ _ _ _ _ h hs)
def qf5 (P:Program) (n:Nat):Bool→Code→Option XC
  | _,.skip=>some .skip
  | _,.exit id=>some (.exit id)
  | _,.ret=>some .ret
  | d,.seq a b=>match qf5 P n d a,qf5 P n d b with
    | some xa,some xb=>some (.seq xa xb)
    | _,_=>none
  | d,.cond c a b=>match okX c,qf5 P n d a,qf5 P n d b with
    | true,some xa,some xb=>some (.cond c xa xb)
    | _,_,_=>none
  | d,.block id a=>(qf5 P n d a).map (.block id)
  | d,.loop a=>(qf5 P n d a).map .loop
  | d,.region _ ops draw=>(creg d P n ops draw).map .reg
  | _,.rangeFunc f ps assign body=>match okX f,qf5 P n false assign,qf5 P n false body with
    | true,some xa,some xb=>some (.range f ps xa xb)
    | _,_,_=>none
  | _,_=>none
def comp (P:Program) (n:Nat) (c:Code):Option XC:=qf5 P n false c
def loopX (body:St→AH→(AX→St→AH→Prop)→Prop) (s:St) (H:AH) (Q:AX→St→AH→Prop):Prop:=
  ∃ (I:St→AH→Prop) (μ:St→AH→Nat),I s H∧∀ s H,I s H→body s H (AX.then (fun s' H'=>I s' H'∧μ s' H'<μ s H) Q)
def X (P:Program) (n:Nat) (ro:Option Nat):XC→St→AH→(AX→St→AH→Prop)→Prop
  | .skip,s,H,Q=>Q .normal s H
  | .exit id,s,H,Q=>Q (.exit id) s H
  | .ret,s,H,Q=>Q .ret s H
  | .seq a b,s,H,Q=>X P n ro a s H (AX.then (fun s H=>X P n ro b s H Q) Q)
  | .cond c a b,s,H,Q=>∃ t,ev s c=.bool t∧if t then X P n ro a s H Q else X P n ro b s H Q
  | .block id a,s,H,Q=>X P n ro a s H (AX.inBlock id Q)
  | .loop a,s,H,Q=>loopX (X P n ro a) s H Q
  | .reg l,s,H,Q=>qbm P l [] s H (Q .normal)
  | .range f ps xa xb,s,H,Q=>∀ assign body,comp P n assign=some xa→comp P n body=some xb→W P n ro (.rangeFunc f ps assign body) s H Q
theorem qrz {P:Program} (hm:P.follows .mixedOrders=true) {n:Nat} {ro:Option Nat} {d:Bool} (hro:d=true→ro=none) (c:Code):∀ (xc:XC) (s:St) (H:AH) (Q:AX→St→AH→Prop),qf5 P n d c=some xc→X P n ro xc s H Q→W P n ro c s H Q:=by
  induction c with
  | skip=>intro xc s H Q hc h;simp [qf5] at hc;subst hc;exact W.skip h
  | exit id=>intro xc s H Q hc h;simp [qf5] at hc;subst hc;exact W.exit h
  | ret=>intro xc s H Q hc h;simp [qf5] at hc;subst hc;exact W.ret h
  | seq a b iha ihb =>
    intro xc s H Q hc h
    simp only [qf5] at hc
    split at hc
    · rename_i xa xb ha hb
      cases hc
      refine W.seq (W.mono (iha _ _ _ _ ha h) fun x s' H' hx=>?_)
      cases x with
      | normal=>exact ihb _ _ _ _ hb hx
      | exit id=>exact hx
      | ret=>exact hx
    · cases hc
  | cond c a b iha ihb =>
    intro xc s H Q hc h
    simp only [qf5] at hc
    split at hc
    · rename_i xa xb hk ha hb
      cases hc
      obtain⟨t,ht,h⟩:=h
      refine W.cond hk ht ?_
      cases t with
      | true=>exact iha _ _ _ _ ha (by simpa using h)
      | false=>exact ihb _ _ _ _ hb (by simpa using h)
    · cases hc
  | block id a ih =>
    intro xc s H Q hc h
    simp only [qf5,Option.map_eq_some_iff] at hc
    obtain⟨xa,ha,rfl⟩:=hc
    exact W.block (ih _ _ _ _ ha h)
  | loop a ih =>
    intro xc s H Q hc h
    simp only [qf5,Option.map_eq_some_iff] at hc
    obtain⟨xa,ha,rfl⟩:=hc
    obtain⟨I,μ,h0,hr⟩:=h
    exact W.loop I μ h0 fun s H hI=>ih _ _ _ _ ha (hr s H hI)
  | region id ops draw =>
    intro xc s H Q hc h
    simp only [qf5,Option.map_eq_some_iff] at hc
    obtain⟨l,ha,rfl⟩:=hc
    exact creg_sound hm hro ha h
  | rangeFunc f ps assign body iha ihb =>
    intro xc s H Q hc h
    simp only [qf5] at hc
    split at hc
    · rename_i xa xb _ ha hb
      cases hc;exact h _ _ ha hb
    · cases hc
  | _=>intro xc s H Q hc h;simp [qf5] at hc
theorem comp_sound {P:Program} (hm:P.follows .mixedOrders=true) {n:Nat} {ro:Option Nat} (c:Code) (xc:XC) (s:St) (H:AH) (Q:AX→St→AH→Prop) (h:comp P n c=some xc) (hx:X P n ro xc s H Q):W P n ro c s H Q:=
  qrz hm (fun h=>by cases h) c xc s H Q h hx
inductive XRes where
  | tmp (t:Tmp)
  | cell (a:Tmp) (sz:Option Nat)
structure XF where
  n:Nat
  res:List XRes
  body:XC
def cres (P:Program):ResultVar→Option XRes
  | .tmp t=>some (.tmp t)
  | .cell a t=>(qqv P t).map (.cell a)
def qb3 (P:Program) (f:FuncId):Option XF:=
  match P.funcs[f]? with
  | some fn=>if fn.name == "runtime.NumGoroutine" then none else
    match fn.body with
    | some c=>match qf5 P fn.ntmps true c,fn.results.toList.mapM (cres P) with
      | some x,some r=>some ⟨fn.ntmps,r,x⟩
      | _,_=>none
    | none=>none
  | none=>none
def xres (H:AH) (s:St):XRes→Option Value
  | .tmp t=>some (s.env t)
  | .cell a sz=>qbh sz H [s.env a]
def qf8 (H:AH) (s:St) (l:List XRes):Option Value:=
  match l.mapM (xres H s) with
  | some [v]=>some v
  | some vs=>some (.tuple vs.toArray)
  | none=>none
def bodyX (res:List XRes) (R:Value→AH→Prop):AX→St→AH→Prop
  | .exit _,_,_=>False
  | _,s,H=>∃ H' v,unwA s.ds H=some H'∧qf8 H' s res=some v∧R v H'
theorem xres_ok {P:Program} {r:ResultVar} {x:XRes} (h:cres P r=some x) {H:AH} {s:St} {v:Value} (hv:xres H s x=some v):resA P H s r=some v:=by
  cases r with
  | tmp t=>simp [cres] at h;subst h;exact hv
  | cell a t =>
    simp only [cres,Option.map_eq_some_iff] at h
    obtain⟨sz,hp,rfl⟩:=h
    simp only [xres,qbh] at hv
    split at hv
    · rename_i ad e
      simp only [List.cons.injEq,and_true] at e
      simp only [resA,e]
      split at hv
      · rename_i c el op ro h1 h2
        simp only [eload,h1,h2]
        unfold qqv at hp
        split at hp
        · cases hp
        · rename_i hn
          rw [if_neg hn]
          split at hp
          · rename_i hag
            rw [if_pos hag]
            simp only [Option.map_eq_some_iff] at hp
            obtain⟨n,h3,rfl⟩:=hp
            simp only [h3]
            exact hv
          · rename_i hag
            cases hp
            rw [if_neg hag]
            exact hv
      · cases hv
    · cases hv
theorem xress_ok {P:Program} {H:AH} {s:St} {rs:List ResultVar} {xs:List XRes} (h:rs.mapM (cres P)=some xs) {v:Value} (hv:qf8 H s xs=some v):ressA P H s rs=some v:=by
  have key:∀ (rs:List ResultVar) (xs:List XRes) (vs:List Value),rs.mapM (cres P)=some xs→xs.mapM (xres H s)=some vs→rs.mapM (resA P H s)=some vs:=by
    intro rs
    induction rs with
    | nil=>intro xs vs h1 h2;simp at h1;subst h1;simpa using h2
    | cons r rs ih =>
      intro xs vs h1 h2
      simp only [List.mapM_cons,Option.bind_eq_bind,Option.bind_eq_some_iff] at h1
      obtain⟨x,q1,y,q2,q3⟩:=h1
      cases q3
      simp only [List.mapM_cons,Option.bind_eq_bind,Option.bind_eq_some_iff] at h2
      obtain⟨v,p1,w,p2,p3⟩:=h2
      cases p3
      simp only [List.mapM_cons,xres_ok q1 p1,ih _ _ q2 p2]
      rfl
  unfold qf8 at hv
  unfold ressA
  cases hm:xs.mapM (xres H s) with
  | none=>rw [hm] at hv;cases hv
  | some vs =>
    rw [hm] at hv
    rw [key _ _ _ h hm]
    exact hv
theorem FN.of_comp {P:Program} (hm:P.follows .mixedOrders=true) {f:FuncId} {xf:XF} (hf:qb3 P f=some xf) {args:List Value} {H:AH} {R:Value→AH→Prop} (hn:args.length≤xf.n)
    (h:X P xf.n none xf.body ⟨env0 args,[]⟩ H (bodyX xf.res R)):FN P f args H R:=by
  unfold qb3 at hf
  split at hf
  · rename_i fn hfn
    split at hf
    · cases hf
    · rename_i hname
      split at hf
      · rename_i c hb
        split at hf
        · rename_i x r hx hr
          cases hf
          refine⟨by simp [qpr,hfn,hb];simpa using hname,F.of_body hfn hb hn (W.mono (qrz hm (fun _=>rfl) c _ _ _ _ hx h) fun x s H hq=>?_)⟩
          cases x with
          | exit id=>exact hq
          | normal =>
            obtain⟨H',v,q1,q2,q3⟩:=hq
            exact⟨H',v,q1,xress_ok hr q2,q3⟩
          | ret =>
            obtain⟨H',v,q1,q2,q3⟩:=hq
            exact⟨H',v,q1,xress_ok hr q2,q3⟩
        · cases hf
      · cases hf
  · cases hf
abbrev nv (n:Nat):Value:=.int .i64 n
end Go.Sim

namespace Go.Sim
open Go
theorem ev_tmp (s:St) (t:Tmp):ev s (.tmp t)=s.env t:=_root_.id rfl
theorem ev_const (s:St) (v:Value):ev s (.const v)=v:=_root_.id rfl
theorem ev_func (s:St) (f:FuncId):ev s (.func f)=.func (.func f) #[] #[]:=_root_.id rfl
theorem put_env (s:St) (d:Tmp) (v:Value) (t:Tmp):(s.put (some d) v).env t=if t=d then v else s.env t:=_root_.id rfl
theorem put_none (s:St) (v:Value):s.put none v=s:=_root_.id rfl
theorem put_dsS (s:St) (d:Tmp) (v:Value):(s.put (some d) v).ds=s.ds:=_root_.id rfl
theorem env0_at (args:List Value) (t:Tmp):env0 args t=args.getD t undef:=_root_.id rfl
theorem env0_env (args:List Value) (ds:List Deferred) (t:Tmp):(⟨env0 args,ds⟩:St).env t=args.getD t undef:=_root_.id rfl
section
variable {P:Program} {n:Nat} {ro:Option Nat} {s:St} {H:AH} {Q:AX→St→AH→Prop} {K:St→AH→Prop} {l:List XS} {D:List PL} {g:Option (Tmp×Bool)} {xs:List Operand} {d:Option Tmp} {j:Nat} {kp:Bool} {chk:List Nat} {a b c:Operand} {x:XO}
theorem steps_guard {t:Tmp} {w:Bool}:qbm P (⟨some (t,w),x,xs,d,j,kp,chk⟩ :: l) D s H K=((qc5 (some (t,w)) s=true→qbm P (⟨none,x,xs,d,j,kp,chk⟩ :: l) D s H K)∧(qc5 (some (t,w)) s=false→qbm P l D (s.put d undef) H K)):=by
  apply propext
  cases h:qc5 (some (t,w)) s
  · constructor
    · intro q
      unfold qbm at q
      simp only [h] at q
      exact⟨fun h=>by simp at h,fun _=>by simpa using q⟩
    · intro q
      unfold qbm
      simp only [h]
      simpa using q.2 rfl
  · constructor
    · intro q
      unfold qbm at q
      simp only [h] at q
      refine⟨fun _=>?_,fun h=>by simp at h⟩
      unfold qbm
      simp only [qc5]
      exact q
    · intro q
      have:=q.1 rfl
      unfold qbm at this ⊢
      simp only [h]
      simp only [qc5] at this
      exact this
theorem qmw {t:Tmp} {w:Bool}:qbm P (⟨some (t,w),x,xs,d,j,kp,chk⟩ :: l) D s H K=if qc5 (some (t,w)) s=true then qbm P (⟨none,x,xs,d,j,kp,chk⟩ :: l) D s H K else qbm P l D (s.put d undef) H K:=by
  rw [steps_guard]
  by_cases h:qc5 (some (t,w)) s=true
  · simp [h]
  · simp [h]
def asB:Value→Bool
  | .bool b=>b
  | _=>false
def asNB:Value→Bool
  | .bool b=>!b
  | _=>false
theorem asB_bool {b:Bool}:asB (.bool b)=b:=_root_.id rfl
theorem asNB_bool {b:Bool}:asNB (.bool b) = !b:=_root_.id rfl
theorem wantX_true {t:Tmp}:qc5 (some (t,true)) s=asB (s.env t):=by
  rw [show qc5 (some (t,true)) s=(match s.env t with | .bool b=>b == true|_=>false) from rfl]
  generalize s.env t=v
  cases v<;>simp [asB]
theorem qp6 {t:Tmp}:qc5 (some (t,false)) s=asNB (s.env t):=by
  rw [show qc5 (some (t,false)) s=(match s.env t with | .bool b=>b == false|_=>false) from rfl]
  generalize s.env t=v
  cases v<;>simp [asNB]
theorem qb0 (hk:x.kind=.pur):qbm P (⟨none,x,xs,d,j,kp,chk⟩ :: l) D s H K = ∃ v,qbc x (xs.map (ev s))=some v∧qbm P l D (s.put d v) H K:=by
  conv=>lhs;unfold qbm
  simp only [qc5,if_true,hk]
theorem steps_mov:qbm P (⟨none,.mov,[a],d,j,kp,chk⟩ :: l) D s H K=qbm P l D (s.put d (ev s a)) H K:=by
  rw [qb0 rfl];simp [qbc]
theorem steps_pick:qbm P (⟨none,.pick,[c,a,b],d,j,kp,chk⟩ :: l) D s H K = ∃ t,ev s c=.bool t∧qbm P l D (s.put d (if t then ev s a else ev s b)) H K:=by
  rw [qb0 rfl]
  apply propext
  constructor
  · rintro⟨v,h1,h2⟩
    obtain⟨t,x,y,h3,h4⟩:=xp_pick h1
    simp at h3
    obtain⟨e1,e2,e3⟩:=h3
    subst h4
    exact⟨t,e1,by rw [e2,e3];exact h2⟩
  · rintro⟨t,h1,h2⟩
    exact⟨_,by simp [qbc,h1],h2⟩
theorem steps_bin {op:BinOp} {m:Nat}:qbm P (⟨none,.bin op m,[a,b],d,j,kp,chk⟩ :: l) D s H K = ∃ v,xbin op m (ev s a) (ev s b)=some v∧qbm P l D (s.put d v) H K:=qb0 rfl
theorem steps_un {op:UnOp}:qbm P (⟨none,.un op,[a],d,j,kp,chk⟩ :: l) D s H K = ∃ v,eun op (ev s a)=some v∧qbm P l D (s.put d v) H K:=qb0 rfl
theorem steps_conv {k:IntKind}:qbm P (⟨none,.conv k,[a],d,j,kp,chk⟩ :: l) D s H K = ∃ v,qbc (.conv k) [ev s a]=some v∧qbm P l D (s.put d v) H K:=qb0 rfl
theorem steps_ext {ix:Nat}:qbm P (⟨none,.ext ix,[a],d,j,kp,chk⟩ :: l) D s H K = ∃ v,qbc (.ext ix) [ev s a]=some v∧qbm P l D (s.put d v) H K:=qb0 rfl
theorem steps_fld {off:Nat}:qbm P (⟨none,.fld off,[a],d,j,kp,chk⟩ :: l) D s H K = ∃ v,qbc (.fld off) [ev s a]=some v∧qbm P l D (s.put d v) H K:=qb0 rfl
theorem steps_ixA {n sz:Nat}:qbm P (⟨none,.ixA n sz,[a,b],d,j,kp,chk⟩ :: l) D s H K = ∃ v,qbc (.ixA n sz) [ev s a,ev s b]=some v∧qbm P l D (s.put d v) H K:=qb0 rfl
theorem steps_ixS {sz:Nat}:qbm P (⟨none,.ixS sz,[a,b],d,j,kp,chk⟩ :: l) D s H K = ∃ v,qbc (.ixS sz) [ev s a,ev s b]=some v∧qbm P l D (s.put d v) H K:=qb0 rfl
theorem steps_slA {n sz:Nat} {lo hi:Bool}:qbm P (⟨none,.slA n sz lo hi,xs,d,j,kp,chk⟩ :: l) D s H K = ∃ v,qbc (.slA n sz lo hi) (xs.map (ev s))=some v∧qbm P l D (s.put d v) H K:=qb0 rfl
theorem steps_slS {sz:Nat} {lo hi:Bool}:qbm P (⟨none,.slS sz lo hi,xs,d,j,kp,chk⟩ :: l) D s H K = ∃ v,qbc (.slS sz lo hi) (xs.map (ev s))=some v∧qbm P l D (s.put d v) H K:=qb0 rfl
theorem steps_fn {g:FuncId} {nf nc:Nat}:qbm P (⟨none,.fn g nf nc,xs,d,j,kp,chk⟩ :: l) D s H K = ∃ v,qbc (.fn g nf nc) (xs.map (ev s))=some v∧qbm P l D (s.put d v) H K:=qb0 rfl
theorem steps_lenA {n:Nat}:qbm P (⟨none,.lenA n,[a],d,j,kp,chk⟩ :: l) D s H K=qbm P l D (s.put d (.int .i64 n)) H K:=by rw [qb0 rfl];simp [qbc]
theorem steps_lenS:qbm P (⟨none,.lenS,[a],d,j,kp,chk⟩ :: l) D s H K = ∃ v,qbc .lenS [ev s a]=some v∧qbm P l D (s.put d v) H K:=qb0 rfl
theorem steps_lenT:qbm P (⟨none,.lenT,[a],d,j,kp,chk⟩ :: l) D s H K = ∃ v,qbc .lenT [ev s a]=some v∧qbm P l D (s.put d v) H K:=qb0 rfl
theorem steps_min2:qbm P (⟨none,.min2,[a,b],d,j,kp,chk⟩ :: l) D s H K = ∃ v,qbc .min2 [ev s a,ev s b]=some v∧qbm P l D (s.put d v) H K:=qb0 rfl
theorem steps_max2:qbm P (⟨none,.max2,[a,b],d,j,kp,chk⟩ :: l) D s H K = ∃ v,qbc .max2 [ev s a,ev s b]=some v∧qbm P l D (s.put d v) H K:=qb0 rfl
theorem steps_bld {init:List Value} {pl:List (Nat×Nat)}:qbm P (⟨none,.bld init pl,xs,d,j,kp,chk⟩ :: l) D s H K = ∃ v,qbv init pl (xs.map (ev s))=some v∧qbm P l D (s.put d (.agg v.toArray)) H K:=by
  rw [qb0 rfl]
  apply propext
  constructor
  · rintro⟨v,h1,h2⟩
    obtain⟨a,h3,rfl⟩:=xp_bld h1
    exact⟨a,h3,h2⟩
  · rintro⟨a,h,h1⟩
    exact⟨_,by simp [qbc,h],h1⟩
theorem steps_prt {sz:Option Nat} {off:Nat}:qbm P (⟨none,.prt sz off,[a],d,j,kp,chk⟩ :: l) D s H K = ∃ v,qbc (.prt sz off) [ev s a]=some v∧qbm P l D (s.put d v) H K:=qb0 rfl
theorem steps_ixV {len es:Nat} {sz:Option Nat}:qbm P (⟨none,.ixV len es sz,[a,b],d,j,kp,chk⟩ :: l) D s H K = ∃ v,qbc (.ixV len es sz) [ev s a,ev s b]=some v∧qbm P l D (s.put d v) H K:=qb0 rfl
theorem steps_ld {sz:Option Nat}:qbm P (⟨none,.ld sz,[a],d,j,kp,chk⟩ :: l) D s H K = ∃ v,qbh sz H [ev s a]=some v∧qbm P l (if kp then⟨j,sz,[ev s a],v⟩ :: D else D) (s.put d v) H K:=by
  conv=>lhs;unfold qbm
  simp [qc5,XO.kind]
theorem qh1 (hk:x.kind=.new):qbm P (⟨none,x,xs,d,j,kp,chk⟩ :: l) D s H K = ∃ c e mk,xnew x (xs.map (ev s))=some (c,e,mk)∧chkX chk D (H++[.cells c e none false])∧qbm P l D (s.put d (mk H.length)) (H++[.cells c e none false]) K:=by
  conv=>lhs;unfold qbm
  simp only [qc5,if_true,hk]
theorem qd9 {D:List PL} {H:AH}:chkX [] D H=True:=by simp [chkX]
theorem steps_new {c:List Value} {e:TypeId}:qbm P (⟨none,.new c e,[],d,j,kp,chk⟩ :: l) D s H K=(chkX chk D (H++[.cells c e none false])∧qbm P l D (s.put d (.pointer (some ⟨H.length,0,none⟩))) (H++[.cells c e none false]) K):=by
  rw [qh1 rfl]
  apply propext
  constructor
  · rintro⟨c',e',mk,h1,h2,h3⟩
    simp only [List.map_nil,xnew,Option.some.injEq,Prod.mk.injEq] at h1
    obtain⟨rfl,rfl,rfl⟩:=h1
    exact⟨h2,h3⟩
  · rintro⟨h2,h3⟩
    exact⟨_,_,_,rfl,h2,h3⟩
theorem steps_box {e:TypeId}:qbm P (⟨none,.box e,[a],d,j,kp,chk⟩ :: l) D s H K=(chkX chk D (H++[.cells (qbn (ev s a)) e none false])∧qbm P l D (s.put d (.pointer (some ⟨H.length,0,none⟩))) (H++[.cells (qbn (ev s a)) e none false]) K):=by
  rw [qh1 rfl]
  apply propext
  constructor
  · rintro⟨c',e',mk,h1,h2,h3⟩
    simp only [List.map_cons,List.map_nil,xnew,Option.some.injEq,Prod.mk.injEq] at h1
    obtain⟨rfl,rfl,rfl⟩:=h1
    exact⟨h2,h3⟩
  · rintro⟨h2,h3⟩
    exact⟨_,_,_,rfl,h2,h3⟩
theorem steps_make {z:Value} {sz bytes:Nat} {e:TypeId}:qbm P (⟨none,.make z sz bytes e,[a,b],d,j,kp,chk⟩ :: l) D s H K = ∃ c e' mk,xnew (.make z sz bytes e) [ev s a,ev s b]=some (c,e',mk)∧chkX chk D (H++[.cells c e' none false])∧qbm P l D (s.put d (mk H.length)) (H++[.cells c e' none false]) K:=qh1 rfl
theorem steps_bsl {init:List Value} {len:Nat} {pl:List (Nat×Nat)} {e:TypeId}:qbm P (⟨none,.bsl init len pl e,xs,d,j,kp,chk⟩ :: l) D s H K = ∃ c,qbv init pl (xs.map (ev s))=some c∧chkX chk D (H++[.cells c e none false])∧qbm P l D (s.put d (.slice (some ⟨H.length,0,none⟩) len len)) (H++[.cells c e none false]) K:=by
  rw [qh1 rfl]
  apply propext
  constructor
  · rintro⟨c',e',mk,h1,h2,h3⟩
    simp only [xnew] at h1
    split at h1
    · rename_i c hc
      simp only [Option.some.injEq,Prod.mk.injEq] at h1
      obtain⟨rfl,rfl,rfl⟩:=h1
      exact⟨_,hc,h2,h3⟩
    · cases h1
  · rintro⟨c,h1,h2,h3⟩
    exact⟨c,e,mkSl len len,by simp only [xnew,h1],h2,h3⟩
theorem steps_act_ (hk:x.kind=.act):qbm P (⟨none,x,xs,d,j,kp,chk⟩ :: l) D s H K = ∃ v H',xact x H (xs.map (ev s))=some (v,H')∧chkX chk D H'∧qbm P l D (s.put d v) H' K:=by
  conv=>lhs;unfold qbm
  simp only [qc5,if_true,hk]
theorem steps_st {sz:Nat}:qbm P (⟨none,.st sz,[a,b],d,j,kp,chk⟩ :: l) D s H K = ∃ v H',xact (.st sz) H [ev s a,ev s b]=some (v,H')∧chkX chk D H'∧qbm P l D (s.put d v) H' K:=steps_act_ rfl
theorem steps_app {e:TypeId} {sz bytes:Nat}:qbm P (⟨none,.app e sz bytes,[a,b],d,j,kp,chk⟩ :: l) D s H K = ∃ v H',xact (.app e sz bytes) H [ev s a,ev s b]=some (v,H')∧chkX chk D H'∧qbm P l D (s.put d v) H' K:=steps_act_ rfl
theorem steps_call {f:Operand}:qbm P (⟨none,.call,f :: xs,d,j,kp,chk⟩ :: l) D s H K=qjd P (ev s f :: xs.map (ev s)) H fun v H'=>chkX chk D H'∧qbm P l D (s.put d v) H' K:=by
  conv=>lhs;unfold qbm
  simp only [qc5,if_true,XO.kind,List.map_cons]
theorem callX_y {l:Nat} {args:List Value} {R:Value→AH→Prop}:qjd P (.func (.yield l) #[] #[] :: args) H R=YN P l args H R:=by simp [qjd]
theorem callX_f {g:FuncId} {args:List Value} {R:Value→AH→Prop}:qjd P (.func (.func g) #[] #[] :: args) H R=FN P g args H R:=by simp [qjd]
end
section
variable {k:IntKind} {a b:Int} {m:Nat} {x y:Bool}
theorem qn7:xbin .add m (.int k a) (.int k b)=some (.int k (k.wrap (a+b))):=by simp [xbin]
theorem qhw:xbin .sub m (.int k a) (.int k b)=some (.int k (k.wrap (a-b))):=by simp [xbin]
theorem xbin_mul:xbin .mul m (.int k a) (.int k b)=some (.int k (k.wrap (a*b))):=by simp [xbin]
theorem xbin_quo (h:b≠0):xbin .quo m (.int k a) (.int k b)=some (.int k (k.wrap (a.tdiv b))):=by simp [xbin,h]
theorem xbin_rem (h:b≠0):xbin .rem m (.int k a) (.int k b)=some (.int k (a.tmod b)):=by simp [xbin,h]
theorem xbin_eql:xbin .eql m (.int k a) (.int k b)=some (.bool (decide (a=b))):=by simp [xbin];rfl
theorem xbin_neq:xbin .neq m (.int k a) (.int k b)=some (.bool (decide (a≠b))):=by simp [xbin];rw [Bool.eq_iff_iff];simp
theorem qj2:xbin .lss m (.int k a) (.int k b)=some (.bool (decide (a<b))):=by simp [xbin]
theorem xbin_leq:xbin .leq m (.int k a) (.int k b)=some (.bool (decide (a≤b))):=by simp [xbin]
theorem xbin_gtr:xbin .gtr m (.int k a) (.int k b)=some (.bool (decide (b<a))):=by simp [xbin]
theorem qn6:xbin .geq m (.int k a) (.int k b)=some (.bool (decide (b≤a))):=by simp [xbin]
theorem xbin_eqlB:xbin .eql 1 (.bool x) (.bool y)=some (.bool (x == y)):=by simp [xbin]
theorem xbin_neqB:xbin .neq 1 (.bool x) (.bool y)=some (.bool (!(x == y))):=by simp [xbin]
theorem eun_not:eun .not (.bool x)=some (.bool !x):=_root_.id rfl
theorem qrv:eun .neg (.int k a)=some (.int k (k.wrap (0-a))):=_root_.id rfl
theorem xp_conv' {k':IntKind}:qbc (.conv k) [.int k' a]=some (.int k (k.wrap a)):=_root_.id rfl
theorem xp_ext' {ix:Nat} {cs:List Value}:qbc (.ext ix) [.tuple cs.toArray]=cs[ix]?:=_root_.id rfl
theorem xp_ext'' {ix:Nat} {cs:Array Value}:qbc (.ext ix) [.tuple cs]=cs.toList[ix]?:=_root_.id rfl
theorem xp_fld' {bl off o:Nat}:qbc (.fld off) [.pointer (some ⟨bl,o,none⟩)]=some (.pointer (some ⟨bl,o+off,none⟩)):=by simp [qbc]
theorem xp_ixA' {bl o len sz:Nat} (h0:0≤a) (h1:a<len):qbc (.ixA len sz) [.pointer (some ⟨bl,o,none⟩),.int k a]=some (.pointer (some ⟨bl,o+a.toNat*sz,none⟩)):=by simp [qbc,h0,h1]
theorem qpv {bl o l c sz:Nat} (h0:0≤a) (h1:a<l):qbc (.ixS sz) [.slice (some ⟨bl,o,none⟩) l c,.int k a]=some (.pointer (some ⟨bl,o+a.toNat*sz,none⟩)):=by simp [qbc,h0,h1]
theorem xp_lenS' {ad:Option Addr} {l c:Nat}:qbc .lenS [.slice ad l c]=some (.int .i64 l):=_root_.id rfl
theorem xp_lenT' {t:ByteArray}:qbc .lenT [.string t]=some (.int .i64 t.size):=_root_.id rfl
theorem qn4:qbc .min2 [.int k a,.int k b]=some (.int k (if b<a then b else a)):=by simp [qbc]
theorem qn5:qbc .max2 [.int k a,.int k b]=some (.int k (if a<b then b else a)):=by simp [qbc]
theorem qfx {H:AH} {sz:Option Nat} {bl o:Nat} {c:List Value} {e:TypeId} {op:Option Nat} {r:Bool} (h:H[bl]? = some (.cells c e op r)):qbh sz H [.pointer (some ⟨bl,o,none⟩)]=qdc sz c o:=by simp [qbh,h]
theorem qk2 {c:List Value} {o:Nat}:qdc none c o=c[o]?:=_root_.id rfl
theorem xpart_some {n:Nat} {c:List Value} {o:Nat} (h:o+n≤c.length):qdc (some n) c o=some (.agg ((c.drop o).take n).toArray):=by simp [qdc,h]
theorem qg5 {n:Int} (h0:-9223372036854775808≤n) (h1:n<9223372036854775808):IntKind.wrap .i64 n=n:=by
  simp [IntKind.wrap,IntKind.bits,IntKind.signed]
  omega
end
section
variable {α:Type} {H0 L:List α} {x:α} {k:Nat}
theorem get_new:(H0++L)[H0.length+k]? = L[k]?:=by rw [List.getElem?_append_right (by omega)];congr 1;omega
theorem qh6:(H0++L)[H0.length]? = L[0]?:=by rw [List.getElem?_append_right (by omega)];congr 1;omega
theorem set_new:(H0++L).set (H0.length+k) x=H0++L.set k x:=by rw [List.set_append_right _ _ (by omega)];congr 2;omega
theorem set_new0:(H0++L).set H0.length x=H0++L.set 0 x:=by rw [List.set_append_right _ _ (by omega)];congr 2;omega
theorem qcv (h:H0[k]? = some x):(H0++L)[k]? = some x:=by rw [List.getElem?_append_left (List.getElem?_eq_some_iff.1 h).1];exact h
end
end Go.Sim

namespace Go.Sim
open Go
def hat (σ:Nat→Option Nat):Inj:=fun b=>(σ b).map fun o=>⟨o,0,0,0⟩
def cmp (σ:Nat→Option Nat) (i:Inj):Inj:=fun b=>(σ b).bind i
theorem qkr {σ:Nat→Option Nat} {b:Nat} {L:Loc} (h:hat σ b=some L):σ b=some L.blk∧L.base=0∧L.esz=0∧L.ext=0:=by
  unfold hat at h
  simp only [Option.map_eq_some_iff] at h
  obtain⟨o,h1,rfl⟩:=h
  exact⟨h1,rfl,rfl,rfl⟩
theorem qg3 {σ:Nat→Option Nat} {i:Inj} {b o:Nat} {L:Loc} (h:σ b=some o) (hi:i o=some L):cmp σ i b=some L:=by simp [cmp,h,hi]
theorem FnR.cmp {σ:Nat→Option Nat} {i:Inj} {f2 f f':Fn} (h:FnR (hat σ) f2 f) (k:FnR i f f'):FnR (cmp σ i) f2 f':=by
  cases h with
  | func g=>cases k;exact .func g
  | yield e =>
    obtain⟨q,_⟩:=qkr e
    generalize hz:Fn.yield _=z at k
    cases k with
    | func g=>cases hz
    | yield e2=>cases hz;exact .yield (qg3 q e2)
theorem VR.cmp {σ:Nat→Option Nat} {i:Inj} {v2 v:Value} (h:VR (hat σ) v2 v):∀ {v'},VR i v v'→VR (Sim.cmp σ i) v2 v':=by
  induction h with
  | bool b=>intro v' k;cases k;exact .bool b
  | int k n=>intro v' k;cases k;exact .int _ _
  | float k n=>intro v' k;cases k;exact .float _ _
  | string s=>intro v' k;cases k;exact .string _
  | nilFunc=>intro v' k;cases k;exact .nilFunc
  | nilIface=>intro v' k;cases k;exact .nilIface
  | pnil=>intro v' k;cases k;exact .pnil
  | mnil=>intro v' k;cases k;exact .mnil
  | ptr e s =>
    intro v' k
    obtain⟨q,q0,_,_⟩:=qkr e
    cases k with
    | ptr e2 s2 =>
      simp only [q0,Nat.zero_add]
      exact .ptr (qg3 q e2) s
  | snil l c=>intro v' k;cases k;exact .snil _ _
  | slice e s hc =>
    intro v' k
    obtain⟨q,q0,_,q3⟩:=qkr e
    have hc':_=_:=hc.elim id (fun h=>by rw [q3] at h;exact h)
    subst hc'
    cases k with
    | slice e2 s2 hc2 =>
      simp only [q0,Nat.zero_add]
      exact .slice (qg3 q e2) s hc2
    | vague e2=>simp at e2
  | vague e =>
    intro v' k
    cases k with
    | slice e2 s2 hc2=>exact .vague e
    | vague e2=>exact .vague e
  | map e =>
    intro v' k
    obtain⟨q,_⟩:=qkr e
    cases k with
    | map e2=>exact .map (qg3 q e2)
  | func hf hs1 _ hs2 _ ih1 ih2 =>
    intro v' k
    cases k with
    | func kf ks1 k1 ks2 k2 =>
      exact .func (hf.cmp kf) (hs1.trans ks1) (fun n p q=>ih1 n p (hs1 ▸ p) (k1 n (hs1 ▸ p) q)) (hs2.trans ks2) (fun n p q=>ih2 n p (hs2 ▸ p) (k2 n (hs2 ▸ p) q))
  | iface t _ ih=>intro v' k;cases k with|iface _ k=>exact .iface t (ih k)
  | agg hs _ ih=>intro v' k;cases k with|agg ks k=>exact .agg (hs.trans ks) (fun n p q=>ih n p (hs ▸ p) (k n (hs ▸ p) q))
  | tuple hs _ ih=>intro v' k;cases k with|tuple ks k=>exact .tuple (hs.trans ks) (fun n p q=>ih n p (hs ▸ p) (k n (hs ▸ p) q))
theorem VR.old {i:Inj} {σ:Nat→Option Nat} (hid:∀ b L,i b=some L→σ b=some b) {v v':Value} (h:VR i v v'):VR (hat σ) v v:=by
  have hh:∀ b L,i b=some L→hat σ b=some ⟨b,0,0,0⟩:=fun b L e=>by simp [hat,hid b L e]
  induction h with
  | bool b=>exact .bool b
  | int k n=>exact .int k n
  | float k n=>exact .float k n
  | string s=>exact .string s
  | nilFunc=>exact .nilFunc
  | nilIface=>exact .nilIface
  | pnil=>exact .pnil
  | mnil=>exact .mnil
  | @ptr a L e s =>
    have:=VR.ptr (a:=a) (hh _ _ e) s
    simp only [Nat.zero_add] at this
    rw [←s] at this
    exact this
  | snil l c=>exact .snil l c
  | @slice a L l c c' e s hc =>
    have:=VR.slice (a:=a) (l:=l) (c:=c) (hh _ _ e) s (.inl rfl)
    simp only [Nat.zero_add] at this
    rw [←s] at this
    exact this
  | vague e=>exact .vague e
  | map e=>exact .map (hh _ _ e)
  | func hf hs1 _ hs2 _ ih1 ih2 =>
    refine .func ?_ rfl (fun n p q=>ih1 n p (hs1 ▸ p)) rfl (fun n p q=>ih2 n p (hs2 ▸ p))
    cases hf with
    | func g=>exact .func g
    | yield e=>exact .yield (hh _ _ e)
  | iface t _ ih=>exact .iface t ih
  | agg hs _ ih=>exact .agg rfl (fun n p q=>ih n p (hs ▸ p))
  | tuple hs _ ih=>exact .tuple rfl (fun n p q=>ih n p (hs ▸ p))
theorem VRs.old {i:Inj} {σ:Nat→Option Nat} (hid:∀ b L,i b=some L→σ b=some b) {v v':List Value} (h:VRs i v v'):VRs (hat σ) v v:=by
  induction h with
  | nil=>exact .nil
  | cons a _ ih=>exact .cons (a.old hid) ih
theorem VRs.cmp {σ:Nat→Option Nat} {i:Inj} {v2 v v':List Value} (h:VRs (hat σ) v2 v) (k:VRs i v v'):VRs (Sim.cmp σ i) v2 v':=by
  induction h generalizing v' with
  | nil=>cases k;exact .nil
  | cons a _ ih=>cases k with|cons b c=>exact .cons (a.cmp b) (ih c)
theorem DefR.old {i:Inj} {σ:Nat→Option Nat} (hid:∀ b L,i b=some L→σ b=some b) {d d':Deferred} (h:DefR i d d'):DefR (hat σ) d d:=by
  have hh:∀ b L,i b=some L→hat σ b=some ⟨b,0,0,0⟩:=fun b L e=>by simp [hat,hid b L e]
  cases h with
  | collected e=>exact .collected (L:=⟨_,0,0,0⟩) (hh _ _ e)
  | fn a b c =>
    refine .fn ?_ (b.old hid) (c.old hid)
    cases a with
    | func g=>exact .func g
    | yield e=>exact .yield (L:=⟨_,0,0,0⟩) (hh _ _ e)
theorem DefsR.old {i:Inj} {σ:Nat→Option Nat} (hid:∀ b L,i b=some L→σ b=some b) {d d':List Deferred} (h:DefsR i d d'):DefsR (hat σ) d d:=by
  induction h with
  | nil=>exact .nil
  | cons a _ ih=>exact .cons (a.old hid) ih
theorem DefR.cmp {σ:Nat→Option Nat} {i:Inj} {d2 d d':Deferred} (h:DefR (hat σ) d2 d) (k:DefR i d d'):DefR (Sim.cmp σ i) d2 d':=by
  cases h with
  | collected e =>
    obtain⟨q,_⟩:=qkr e
    cases k with
    | collected e2=>exact .collected (qg3 q e2)
  | fn a b c=>cases k with|fn a' b' c'=>exact .fn (a.cmp a') (b.cmp b') (c.cmp c')
theorem DefsR.cmp {σ:Nat→Option Nat} {i:Inj} {d2 d d':List Deferred} (h:DefsR (hat σ) d2 d) (k:DefsR i d d'):DefsR (Sim.cmp σ i) d2 d':=by
  induction h generalizing d' with
  | nil=>cases k;exact .nil
  | cons a _ ih=>cases k with|cons b c=>exact .cons (a.cmp b) (ih c)
inductive AR (σ:Nat→Option Nat):AB→AB→Prop
  | cells {c2 c:List Value} (e:TypeId) (o:Option Nat) (r:Bool):VRs (hat σ) c2 c→AR σ (.cells c2 e o r) (.cells c e o r)
  | loop {l2 l:ALoop}:l2.state=l.state→l2.pending=l.pending→l2.params=l.params→l2.assign=l.assign→l2.body=l.body→l2.n=l.n→(∀ t,VR (hat σ) (l2.env t) (l.env t))→σ l2.defers=some l.defers→AR σ (.loop l2) (.loop l)
  | defs0:AR σ (.defs none) (.defs none)
  | defs {d2 d:List Deferred}:DefsR (hat σ) d2 d→AR σ (.defs (some d2)) (.defs (some d))
  | dead:AR σ .dead .dead
theorem AR.old {i:Inj} {σ:Nat→Option Nat} (hid:∀ b L,i b=some L→σ b=some b) {x:AB} {L:Loc} {w:World} (h:BlkR i x L w):AR σ x x:=by
  match x,h with
  | .cells c e opn ro,h =>
    obtain⟨c',e',fr,h1,h2,_⟩:=h
    refine .cells e opn ro ?_
    refine VRs.of_get rfl (fun k p q=>?_)
    obtain⟨v',_,hv⟩:=h2 k _ (List.getElem?_eq_getElem p)
    exact hv.old hid
  | .loop l,h =>
    obtain⟨l',h1,h2⟩:=h
    obtain⟨L,e,_⟩:=h2.defers
    exact .loop rfl rfl rfl rfl rfl rfl (fun t=>(h2.env t).old hid) (hid _ _ e)
  | .defs none,_=>exact .defs0
  | .defs (some d),h=>obtain⟨d',_,h2⟩:=h;exact .defs (h2.old hid)
  | .dead,_=>exact .dead
theorem AR.blk {i:Inj} {σ:Nat→Option Nat} {x2 x:AB} {L:Loc} {w:World} (h:AR σ x2 x) (k:BlkR i x L w):BlkR (Sim.cmp σ i) x2 L w:=by
  cases h with
  | cells e o r hv =>
    obtain⟨c',e',fr,h1,h2,h3,h4⟩:=k
    refine⟨c',e',fr,h1,fun n v hn=>?_,fun hr=>?_,h4⟩
    · obtain⟨u,hu,hvu⟩:=hv.get hn
      obtain⟨v',q1,q2⟩:=h2 n u hu
      exact⟨v',q1,hvu.cmp q2⟩
    · rw [hv.length];exact h3 hr
  | loop a1 a2 a3 a4 a5 a6 a7 a8 =>
    obtain⟨l',h1,h2⟩:=k
    refine⟨l',h1,⟨h2.state.trans a1.symm,h2.pending.trans a2.symm,h2.params.trans a3.symm,h2.assign.trans a4.symm,h2.body.trans a5.symm,h2.size.trans a6.symm,fun t=>(a7 t).cmp (h2.env t),?_⟩⟩
    obtain⟨L,e,e2⟩:=h2.defers
    exact⟨L,qg3 a8 e,e2⟩
  | defs0=>exact k
  | defs hd=>obtain⟨d',h1,h2⟩:=k;exact⟨d',h1,hd.cmp h2⟩
  | dead=>trivial
theorem AR.owned {σ:Nat→Option Nat} {x2 x:AB} (h:AR σ x2 x):x2.owned=x.owned:=by cases h<;>rfl
theorem AR.live {σ:Nat→Option Nat} {x2 x:AB} (h:AR σ x2 x):x2.live=x.live:=by cases h<;>rfl
theorem FSim.rename {P:Program} {f:FuncId} {args:List Value} {H H' H2:AH} {v v2:Value} (σ:Nat→Option Nat) (h:FSim P f args H v H') (hid:∀ b,b<H.length→σ b=some b)
    (hnew:∀ b o,H.length≤b→σ b=some o→H.length≤o∧b<H2.length∧∀ x,H'[o]? = some x→∃ x2,H2[b]? = some x2∧AR σ x2 x)
    (hinj:∀ b b' o,σ b=some o→σ b'=some o→b=b') (hv:VR (hat σ) v2 v) (hlen:H.length≤H2.length)
    (hold:∀ b,b<H.length→H2[b]? = H'[b]?∧(H'[b]? = H[b]?∨∀ x,H'[b]? = some x→AR σ x x)):FSim P f args H v2 H2:=by
  intro i w args' hr ha cs
  obtain⟨i',w',v',fr,e,g,q1,q2,q3,q4⟩:=h i w args' hr ha cs
  have hidi:∀ b L,i b=some L→σ b=some b:=fun b L hb=>hid b (hr.dom b L hb)
  -- the blocks of both sides
  have hblk:∀ b o L,σ b=some o→i' o=some L→∃ x x2,H'[o]? = some x∧H2[b]? = some x2∧AR σ x2 x∧b<H2.length:=by
    intro b o L hb ho
    have hlt:=g.dom o L ho
    have hx:H'[o]? = some H'[o]:=List.getElem?_eq_getElem hlt
    rcases Nat.lt_or_ge b H.length with hbl|hbl
    · have:=hid b hbl
      rw [hb] at this
      cases this
      obtain⟨p1,p2⟩:=hold b hbl
      refine⟨_,_,hx,p1.trans hx,?_,by omega⟩
      rcases p2 with p2|p2
      · rcases e.fresh b L ho with hi|⟨hi,_⟩
        · exact AR.old hidi (hr.blk b L _ hi (p2.symm.trans hx))
        · omega
      · exact p2 _ hx
    · obtain⟨_,p2,p3⟩:=hnew b o hbl hb
      obtain⟨x2,r1,r2⟩:=p3 _ hx
      exact⟨_,_,hx,r1,r2,p2⟩
  have hc:∀ b L,cmp σ i' b=some L→∃ o,σ b=some o∧i' o=some L:=by
    intro b L hb
    unfold cmp at hb
    cases hs:σ b with
    | none=>rw [hs] at hb;cases hb
    | some o=>rw [hs] at hb;exact⟨o,rfl,hb⟩
  refine⟨cmp σ i',w',v',fr,⟨hr.dom,fun b L hb=>qg3 (hidi b L hb) (e.le b L hb),e.os,e.tape,e.output,e.size,hlen,fun b x' hb hx ho=>?_,e.frame,fun b hb hn=>?_,fun b L hb=>?_⟩,⟨fun b L hb=>?_,fun b L x hb hx=>?_,fun b1 b2 L1 L2 x1 x2 f1 f2 g1 g2 o1 l2 hL=>?_⟩,hv.cmp q1,q2,q3,q4⟩
  · exact e.own b x' hb ((hold b hb).1.symm.trans hx) ho
  · exact (hold b hb).1.trans (e.aframe b hb hn)
  · obtain⟨o,h1,h2⟩:=hc b L hb
    rcases Nat.lt_or_ge b H.length with hbl|hbl
    · have:=hid b hbl
      rw [h1] at this
      cases this
      rcases e.fresh b L h2 with hi|⟨hi,_⟩
      · exact .inl hi
      · omega
    · obtain⟨p1,_,_⟩:=hnew b o hbl h1
      rcases e.fresh o L h2 with hi|⟨_,hi⟩
      · have:=hr.dom o L hi;omega
      · exact .inr ⟨hbl,hi⟩
  · obtain⟨o,h1,h2⟩:=hc b L hb
    obtain⟨_,_,_,_,_,hlt⟩:=hblk b o L h1 h2
    exact hlt
  · obtain⟨o,h1,h2⟩:=hc b L hb
    obtain⟨y,y2,p1,p2,p3,_⟩:=hblk b o L h1 h2
    rw [hx] at p2
    cases p2
    exact p3.blk (g.blk o L y h2 p1)
  · obtain⟨o1',s1,t1⟩:=hc b1 L1 f1
    obtain⟨o2',s2,t2⟩:=hc b2 L2 f2
    obtain⟨y1,z1,p1,p2,p3,_⟩:=hblk b1 o1' L1 s1 t1
    obtain⟨y2,z2,r1,r2,r3,_⟩:=hblk b2 o2' L2 s2 t2
    rw [g1] at p2;cases p2
    rw [g2] at r2;cases r2
    have:=g.inj o1' o2' L1 L2 y1 y2 t1 t2 p1 r1 (p3.owned ▸ o1) (r3.live ▸ l2) hL
    subst this
    exact hinj _ _ _ s1 s2
theorem VR.ground_hat {v:Value} (h:ground v=true) (σ:Nat→Option Nat):VR (hat σ) v v:=VR.of_ground h _
theorem FN.gc0 {P:Program} {f:FuncId} {args:List Value} {H:AH} {R:Value→Prop} (h:FN P f args H (fun v H'=>R v∧ground v=true∧∃ J,H'=H++J)):FN P f args H (fun v H'=>R v∧H'=H):=by
  obtain⟨hc,v,H',⟨hR,hg,J,rfl⟩,hs⟩:=h
  refine⟨hc,v,H,⟨hR,rfl⟩,hs.rename (fun b=>if b<H.length then some b else none) (fun b hb=>by simp [hb]) (fun b o hb ho=>?_) (fun b b' o h1 h2=>?_) (VR.ground_hat hg _) (Nat.le_refl _) (fun b hb=>?_)⟩
  · simp [Nat.not_lt.2 hb] at ho
  · split at h1<;>split at h2<;>simp_all
  · have:(H++J)[b]? = H[b]?:=List.getElem?_append_left hb
    exact⟨this.symm,.inl this⟩
theorem FN.gc1 {P:Program} {f:FuncId} {args:List Value} {H:AH} {R:Value→AB→Prop} (h:FN P f args H (fun v H'=>∃ J k v2 x,H'=H++J∧J[k]? = some x∧(∀ σ,(∀ b,b<H.length→σ b=some b)→σ H.length=some (H.length+k)→VR (hat σ) v2 v∧AR σ x x)∧R v2 x)) :
    FN P f args H (fun v H'=>∃ x,H'=H++[x]∧R v x):=by
  obtain⟨hc,v,H',⟨J,k,v2,x,rfl,hJ,hrel,hR⟩,hs⟩:=h
  generalize hσ:(fun b=>if b<H.length then some b else if b=H.length then some (H.length+k) else none)=σ
  have s1:∀ b,b<H.length→σ b=some b:=fun b hb=>by rw [←hσ];simp [hb]
  have s2:σ H.length=some (H.length+k):=by rw [←hσ];simp
  have s3:∀ b,H.length<b→σ b=none:=fun b hb=>by rw [←hσ];simp only;rw [if_neg (by omega),if_neg (by omega)]
  obtain⟨r1,r2⟩:=hrel σ s1 s2
  refine⟨hc,v2,H++[x],⟨x,rfl,hR⟩,hs.rename σ s1 (fun b o hb ho=>?_) (fun b b' o h1 h2=>?_) r1 (by simp) (fun b hb=>?_)⟩
  · rcases Nat.lt_or_ge H.length b with hlt|hge
    · rw [s3 b hlt] at ho;cases ho
    · have:b=H.length:=by omega
      subst this
      rw [s2] at ho
      cases ho
      refine⟨by omega,by simp,fun y hy=>⟨x,by simp,?_⟩⟩
      rw [get_new,hJ] at hy
      cases hy
      exact r2
  · have key:∀ c,σ c=some o→(c<H.length∧o=c)∨(c=H.length∧o=H.length+k):=by
      intro c hc
      rcases Nat.lt_or_ge c H.length with p|p
      · rw [s1 c p] at hc;cases hc;exact .inl ⟨p,rfl⟩
      · rcases Nat.lt_or_ge H.length c with p2|p2
        · rw [s3 c p2] at hc;cases hc
        · have:c=H.length:=by omega
          subst this
          rw [s2] at hc;cases hc;exact .inr ⟨rfl,rfl⟩
    rcases key b h1 with ⟨p,q⟩|⟨p,q⟩<;>rcases key b' h2 with ⟨p',q'⟩|⟨p',q'⟩<;>omega
  · have e1:(H++J)[b]? = H[b]?:=List.getElem?_append_left hb
    have e2:(H++[x])[b]? = H[b]?:=List.getElem?_append_left hb
    exact⟨e2.trans e1.symm,.inl e1⟩
end Go.Sim

namespace Go.Sim
open Go
theorem qch {P:Program}:∀ (l:List XS) (D:List PL) (s:St) (H:AH) (K K':St→AH→Prop),(∀ s H,K s H→K' s H)→qbm P l D s H K→qbm P l D s H K'
  | [],_,s,H,K,K',hk,h=>hk s H h
  | i :: l,D,s,H,K,K',hk,h=>by
    unfold qbm at h ⊢
    split at h
    · rename_i hw
      rw [if_pos hw]
      split at h
      · obtain⟨v,h1,h2⟩:=h
        exact⟨v,h1,qch l _ _ _ K K' hk h2⟩
      · obtain⟨sz,v,h0,h1,h2⟩:=h
        exact⟨sz,v,h0,h1,qch l _ _ _ K K' hk h2⟩
      · obtain⟨c,e,mk,h0,h1,h2⟩:=h
        exact⟨c,e,mk,h0,h1,qch l _ _ _ K K' hk h2⟩
      · obtain⟨v,H',h0,h1,h2⟩:=h
        exact⟨v,H',h0,h1,qch l _ _ _ K K' hk h2⟩
      · unfold qjd at h ⊢
        split at h
        · exact h.mono fun v H' h=>⟨h.1,qch l _ _ _ K K' hk h.2⟩
        · exact⟨h.1,h.2.1,h.2.2.mono fun v H' h=>⟨h.1,qch l _ _ _ K K' hk h.2⟩⟩
        · exact h.elim
    · rename_i hw
      rw [if_neg hw]
      exact qch l _ _ _ K K' hk h
theorem X.mono {P:Program} {n:Nat} {ro:Option Nat} (c:XC):∀ {s:St} {H:AH} {Q Q':AX→St→AH→Prop},X P n ro c s H Q→(∀ x s H,Q x s H→Q' x s H)→X P n ro c s H Q':=by
  induction c with
  | skip=>intro s H Q Q' h hq;exact hq _ _ _ h
  | exit id=>intro s H Q Q' h hq;exact hq _ _ _ h
  | ret=>intro s H Q Q' h hq;exact hq _ _ _ h
  | seq a b iha ihb =>
    intro s H Q Q' h hq
    refine iha h fun x s H hx=>?_
    cases x with
    | normal=>exact ihb hx hq
    | exit id=>exact hq _ _ _ hx
    | ret=>exact hq _ _ _ hx
  | cond c a b iha ihb =>
    intro s H Q Q' h hq
    obtain⟨t,h1,h2⟩:=h
    refine⟨t,h1,?_⟩
    cases t with
    | true=>simp only [if_true] at h2 ⊢;exact iha h2 hq
    | false=>exact ihb h2 hq
  | block id a ih =>
    intro s H Q Q' h hq
    refine ih h fun x s H hx=>?_
    cases x with
    | normal=>exact hq _ _ _ hx
    | exit i =>
      simp only [AX.inBlock] at hx ⊢
      split
      · rename_i e;rw [if_pos e] at hx;exact hq _ _ _ hx
      · rename_i e;rw [if_neg e] at hx;exact hq _ _ _ hx
    | ret=>exact hq _ _ _ hx
  | loop a ih =>
    intro s H Q Q' h hq
    obtain⟨I,μ,h0,hr⟩:=h
    refine⟨I,μ,h0,fun s H hI=>ih (hr s H hI) fun x s H hx=>?_⟩
    cases x with
    | normal=>exact hx
    | exit i=>exact hq _ _ _ hx
    | ret=>exact hq _ _ _ hx
  | reg l =>
    intro s H Q Q' h hq
    exact qch l _ _ _ _ _ (fun s H h=>hq _ _ _ h) h
  | range f ps xa xb _ _ =>
    intro s H Q Q' h hq assign body ha hb
    exact W.mono (h assign body ha hb) hq
theorem least (p:Nat→Prop):∀ n,p n→∃ m,p m∧∀ k,k<m→¬p k:=by
  intro n
  induction n using Nat.strongRecOn with
  | _ n ih =>
    intro hn
    by_cases h:∃ k,k<n∧p k
    · obtain⟨k,h1,h2⟩:=h;exact ih k h1 h2
    · exact⟨n,hn,fun k hk hp=>h ⟨k,hk,hp⟩⟩
open Classical in
theorem loop_ind {P:Program} {n:Nat} {ro:Option Nat} {c:XC} {s:St} {H:AH} {Q:AX→St→AH→Prop} (I:Nat→St→AH→Prop) (m:Nat) (h0:I m s H)
    (hr:∀ m s H,I m s H→X P n ro c s H (AX.then (fun s' H'=>∃ m',m'<m∧I m' s' H') Q)):loopX (X P n ro c) s H Q:=by
  refine⟨fun s H=>∃ m,I m s H,fun s H=>if h:∃ m,I m s H then Classical.choose (least (fun m=>I m s H) (Classical.choose h) (Classical.choose_spec h)) else 0,⟨m,h0⟩,fun s H hI=>?_⟩
  have hl:=Classical.choose_spec (least (fun m=>I m s H) (Classical.choose hI) (Classical.choose_spec hI))
  refine X.mono c (hr _ s H hl.1) fun x s' H' hx=>?_
  cases x with
  | normal =>
    obtain⟨m',h1,h2⟩:=hx
    refine⟨⟨m',h2⟩,?_⟩
    have hI':∃ m,I m s' H':=⟨m',h2⟩
    have hl':=Classical.choose_spec (least (fun m=>I m s' H') (Classical.choose hI') (Classical.choose_spec hI'))
    simp only [dif_pos hI,dif_pos hI']
    refine Nat.lt_of_le_of_lt ?_ h1
    refine Nat.le_of_not_lt fun hlt=>?_
    exact hl'.2 m' hlt h2
  | exit i=>exact hx
  | ret=>exact hx
theorem loop_nat {P:Program} {n:Nat} {ro:Option Nat} {c:XC} {s:St} {H:AH} {Q:AX→St→AH→Prop} (N:Nat) (I:Nat→St→AH→Prop) (h0:I 0 s H)
    (hr:∀ k s H,k<N→I k s H→X P n ro c s H (AX.then (I (k+1)) Q)) (hN:∀ s H,I N s H→X P n ro c s H (AX.then (fun _ _=>False) Q)):loopX (X P n ro c) s H Q:=by
  refine loop_ind (fun m s H=>∃ k,k+m=N∧I k s H) N ⟨0,by omega,h0⟩ fun m s H ⟨k,hk,hI⟩=>?_
  cases m with
  | zero =>
    have:k=N:=by omega
    subst this
    refine X.mono c (hN s H hI) fun x s' H' hx=>?_
    cases x with
    | normal=>exact hx.elim
    | exit i=>exact hx
    | ret=>exact hx
  | succ m =>
    refine X.mono c (hr k s H (by omega) hI) fun x s' H' hx=>?_
    cases x with
    | normal=>exact⟨m,by omega,k+1,by omega,hx⟩
    | exit i=>exact hx
    | ret=>exact hx
theorem qkf {P:Program} {n:Nat} {s:St} {H:AH} {Q:AX→St→AH→Prop} {f:Operand} {ps:Array Tmp} {xa xb:XC} (hf:okX f=true) {g:FuncId} {first cap:Array Value} (hev:ev s f=.func (.func g) first cap)
    (h:∀ assign body,comp P n assign=some xa→comp P n body=some xb →
      FN P g (first.toList++[.func (.yield (H.length+1)) #[] #[]]++cap.toList) (H++[.defs (some []),.loop (qbx n s ps assign body H.length)])
        (fun _ H2=>∃ r x,H2[H.length+1]? = some (.loop r)∧r.state≠.busy∧AX.of r.pending=some x ∧
          Q x { s with ds:=⟨.collected H.length,#[]⟩ :: s.ds } (H2.set (H.length+1) (.loop { r with state:=.exhausted,pending:=r.pending })))):X P n none (.range f ps xa xb) s H Q:=by
  intro assign body ha hb
  obtain⟨hcl,hF⟩:=h assign body ha hb
  unfold qpr at hcl
  split at hcl
  · rename_i fn hg
    simp only [Bool.and_eq_true,Bool.not_eq_true'] at hcl
    exact W.rangeFunc hf hev hg hcl.1 hcl.2 hF
  · cases hcl
theorem YN.intro {P:Program} (hm:P.follows .mixedOrders=true) {l:Nat} {vs:List Value} {H:AH} {R:Value→AH→Prop} {r:ALoop} {xa xb:XC} (hl:H[l]? = some (.loop r)) (ha:comp P r.n r.assign=some xa) (hb:comp P r.n r.body=some xb)
    (hps:r.params.size=vs.length) (hpn:∀ t∈r.params.toList,t<r.n)
    (h:X P r.n (some l) xa ⟨qm2 r.env r.params.toList vs,[]⟩ H (fun x s1 H1=>x=.normal∧∃ r1,H1[l]? = some (.loop r1)∧r1.state=.ready ∧
      X P r.n (some l) xb s1 (H1.set l (.loop { r1 with state:=.busy,pending:=r1.pending })) (fun x _ H3=>∃ r3,H3[l]? = some (.loop r3) ∧
        R (.bool x.isN) (H3.set l (.loop { r3 with state:=if x.isN then .ready else .done,pending:=x.jump }))))):YN P l vs H R:=by
  obtain⟨x1,s1,H1,⟨rfl,r1,h1,h2,h3⟩,q1⟩:=comp_sound hm (ro:=some l) r.assign xa _ _ _ ha h
  obtain⟨x2,s2,H3,⟨r3,h4,h5⟩,q2⟩:=comp_sound hm (ro:=some l) r.body xb _ _ _ hb h3
  exact⟨_,_,h5,ysim hl hps hpn q1 h1 h2 q2 h4⟩
end Go.Sim

namespace Go.Sim
open Go
section
variable {a b m:Nat} {k:IntKind}
theorem qj3 (h:a+b<9223372036854775808):xbin .add m (nv a) (nv b)=some (nv (a+b)):=by
  rw [qn7,qg5 (by omega) (by omega)];rfl
theorem xbin_subN (h:b≤a) (h2:a<9223372036854775808):xbin .sub m (nv a) (nv b)=some (nv (a-b)):=by
  rw [qhw,qg5 (by omega) (by omega)];congr 2;omega
theorem qp0 (h:a*b<9223372036854775808):xbin .mul m (nv a) (nv b)=some (nv (a*b)):=by
  have:((a:Int)*b)=((a*b:Nat):Int):=by simp
  rw [xbin_mul,this,qg5 (by omega) (by omega)]
theorem qpx (h:b≠0) (h2:a<9223372036854775808):xbin .quo m (nv a) (nv b)=some (nv (a / b)):=by
  have e:((a:Int).tdiv b)=((a / b:Nat):Int):=_root_.id rfl
  have:a / b≤a:=Nat.div_le_self a b
  rw [xbin_quo (by omega),e]
  generalize a / b=q at *
  rw [qg5 (by omega) (by omega)]
theorem qj1 (h:b≠0):xbin .rem m (.int k a) (.int k b)=some (.int k ((a % b:Nat):Int)):=by
  rw [xbin_rem (by omega)]
  rfl
theorem qp5:xbin .eql m (.int k a) (.int k b)=some (.bool (decide (a=b))):=by rw [xbin_eql];congr 2;simp [Int.ofNat_inj]
theorem qpz:xbin .neq m (.int k a) (.int k b)=some (.bool (decide (a≠b))):=by rw [xbin_neq];congr 2;simp [Int.ofNat_inj]
theorem qp1:xbin .lss m (.int k a) (.int k b)=some (.bool (decide (a<b))):=by rw [qj2];congr 2;simp
theorem qp2:xbin .leq m (.int k a) (.int k b)=some (.bool (decide (a≤b))):=by rw [xbin_leq];congr 2;simp
theorem qp3:xbin .gtr m (.int k a) (.int k b)=some (.bool (decide (b<a))):=by rw [xbin_gtr];congr 2;simp
theorem qp4:xbin .geq m (.int k a) (.int k b)=some (.bool (decide (b≤a))):=by rw [qn6];congr 2;simp
theorem xp_ixAN {bl o len sz:Nat} (h1:a<len):qbc (.ixA len sz) [.pointer (some ⟨bl,o,none⟩),.int k a]=some (.pointer (some ⟨bl,o+a*sz,none⟩)):=by
  rw [xp_ixA' (by omega) (by omega)];rfl
theorem xp_ixSN {bl o l c sz:Nat} (h1:a<l):qbc (.ixS sz) [.slice (some ⟨bl,o,none⟩) l c,.int k a]=some (.pointer (some ⟨bl,o+a*sz,none⟩)):=by
  rw [qpv (by omega) (by omega)];rfl
theorem qjz (h:a<9223372036854775808):qbc (.conv .i64) [.int k a]=some (nv a):=by rw [xp_conv',qg5 (by omega) (by omega)]
theorem xp_min2N:qbc .min2 [nv a,nv b]=some (nv (min a b)):=by
  rw [qn4];congr 2
  split<;>omega
theorem xp_max2N:qbc .max2 [nv a,nv b]=some (nv (max a b)):=by
  rw [qn5];congr 2
  split<;>omega
end
def qdm (sz:Option Nat) (x:Option AB) (o:Nat):Option Value:=
  match x with
  | some (.cells c _ _ _)=>qdc sz c o
  | _=>none
def stB (sz:Nat) (H:AH) (x:Option AB) (bl o:Nat) (v:Value):Option (Value×AH):=
  match x with
  | some (.cells c e op false)=>if (qbn v).length=sz∧(qbn v).all one∧o+sz≤c.length then some (undef,H.set bl (.cells (putL c o (qbn v)) e op false)) else none
  | _=>none
theorem xload_ptr {sz:Option Nat} {H:AH} {bl o:Nat}:qbh sz H [.pointer (some ⟨bl,o,none⟩)]=qdm sz H[bl]? o:=by
  unfold qbh qdm
  simp only
  split
  · rename_i h _;rw [h]
  · rename_i h
    split
    · rename_i e;exact absurd rfl (h _ _ _ _ e)
    · rfl
theorem xact_st {sz:Nat} {H:AH} {bl o:Nat} {v:Value}:xact (.st sz) H [.pointer (some ⟨bl,o,none⟩),v]=stB sz H H[bl]? bl o v:=by
  unfold xact stB
  simp only
  split
  · rename_i h _;rw [h]
  · rename_i h
    split
    · rename_i e;exact absurd rfl (h _ _ _ e)
    · rfl
section
variable {H:AH} {c c':List Value} {e:TypeId} {op:Option Nat} {r:Bool} {o n bl x:Nat} {l:List Nat}
theorem loadB_one:qdm none (some (.cells c e op r)) o=c[o]?:=_root_.id rfl
theorem loadB_c0 {v:Value}:qdm none (some (.cells (v :: c) e op r)) 0=some v:=_root_.id rfl
theorem loadB_cs {v:Value}:qdm none (some (.cells (v :: c) e op r)) (o+1)=qdm none (some (.cells c e op r)) o:=_root_.id rfl
theorem loadB_c1 {v v1:Value}:qdm none (some (.cells (v :: v1 :: c) e op r)) 1=some v1:=_root_.id rfl
theorem loadB_c2 {v v1 v2:Value}:qdm none (some (.cells (v :: v1 :: v2 :: c) e op r)) 2=some v2:=_root_.id rfl
theorem loadB_c3 {v v1 v2 v3:Value}:qdm none (some (.cells (v :: v1 :: v2 :: v3 :: c) e op r)) 3=some v3:=_root_.id rfl
theorem cellsL_agg:qbn (.agg c.toArray)=c:=_root_.id rfl
theorem cellsL_int {k:IntKind} {i:Int}:qbn (.int k i)=[.int k i]:=_root_.id rfl
theorem qr0 {b:Bool}:qbn (.bool b)=[.bool b]:=_root_.id rfl
theorem qnq {a:Option Addr} {n m:Nat}:qbn (.slice a n m)=[.slice a n m]:=_root_.id rfl
theorem loadB_nv (h:o<l.length):qdm none (some (.cells (l.map nv) e op r)) o=some (nv (l.getD o 0)):=by
  simp [qdm,qdc,h]
theorem loadB_all (h:c.length=n):qdm (some n) (some (.cells c e op r)) 0=some (.agg c.toArray):=by
  subst h
  simp [qdm,qdc]
theorem qfm {v:Value} (h1:qbn v=[v]) (h2:one v=true) (h:o<c.length):stB 1 H (some (.cells c e op false)) bl o v=some (undef,H.set bl (.cells (c.set o v) e op false)):=by
  unfold stB
  simp only [h1]
  rw [if_pos ⟨rfl,by simp [h2],by omega⟩]
  rfl
theorem stB_int {k:IntKind} {i:Int} (h:o<c.length):stB 1 H (some (.cells c e op false)) bl o (.int k i)=some (undef,H.set bl (.cells (c.set o (.int k i)) e op false)):=qfm rfl rfl h
theorem stB_intL {k:IntKind} {i:Int} {v:Value} (h:o<(v :: c).length):stB 1 H (some (.cells (v :: c) e op false)) bl o (.int k i)=some (undef,H.set bl (.cells ((v :: c).set o (.int k i)) e op false)):=qfm rfl rfl h
theorem map_set_nv:(l.map nv).set o (nv x)=(l.set o x).map nv:=by rw [List.map_set]
theorem stB_nv (h:o<l.length):stB 1 H (some (.cells (l.map nv) e op false)) bl o (nv x)=some (undef,H.set bl (.cells ((l.set o x).map nv) e op false)):=by
  rw [stB_int (by simpa using h),map_set_nv]
theorem stB_bool {b:Bool} (h:o<c.length):stB 1 H (some (.cells c e op false)) bl o (.bool b)=some (undef,H.set bl (.cells (c.set o (.bool b)) e op false)):=qfm rfl rfl h
theorem stB_slice {ad:Option Addr} {ln cp:Nat} (h:o<c.length):stB 1 H (some (.cells c e op false)) bl o (.slice ad ln cp)=some (undef,H.set bl (.cells (c.set o (.slice ad ln cp)) e op false)):=qfm rfl rfl h
theorem qgt (h1:c'.length=n) (h2:c.length=n) (h3:c'.all one=true):stB n H (some (.cells c e op false)) bl 0 (.agg c'.toArray)=some (undef,H.set bl (.cells c' e op false)):=by
  have hc:qbn (.agg c'.toArray)=c':=_root_.id rfl
  unfold stB
  simp only [hc]
  rw [if_pos ⟨h1,h3,by omega⟩,putL_eq (by omega)]
  unfold qcq
  simp
  have:c.drop c'.length=[]:=by apply List.drop_eq_nil_of_le;omega
  rw [this];simp
theorem qbd:((l.map nv).all one)=true:=by simp [one]
end
theorem xres_cell {H:AH} {s:St} {a:Tmp} {sz:Option Nat}:xres H s (.cell a sz)=qbh sz H [s.env a]:=_root_.id rfl
theorem xres_tmp {H:AH} {s:St} {a:Tmp}:xres H s (.tmp a)=some (s.env a):=_root_.id rfl
theorem xress_one {H:AH} {s:St} {r:XRes}:qf8 H s [r]=xres H s r:=by
  unfold qf8
  simp only [List.mapM_cons,List.mapM_nil,Option.pure_def,Option.bind_eq_bind,Option.bind_some]
  cases xres H s r<;>rfl
def tup2 (a b:Option Value):Option Value:=a.bind fun x=>b.bind fun y=>some (.tuple [x,y].toArray)
theorem tup2_some {x y:Value}:tup2 (some x) (some y)=some (.tuple [x,y].toArray):=_root_.id rfl
theorem xress_two {H:AH} {s:St} {r q:XRes}:qf8 H s [r,q]=tup2 (xres H s r) (xres H s q):=by
  unfold qf8 tup2
  simp only [List.mapM_cons,List.mapM_nil,Option.pure_def,Option.bind_eq_bind,Option.bind_some]
  cases xres H s r
  · rfl
  · cases xres H s q<;>rfl
theorem bodyX_normal {res:List XRes} {R:Value→AH→Prop} {s:St} {H:AH}:bodyX res R .normal s H = ∃ H',unwA s.ds H=some H'∧∃ v,qf8 H' s res=some v∧R v H':=by
  simp only [bodyX,exists_and_left]
theorem bodyX_ret {res:List XRes} {R:Value→AH→Prop} {s:St} {H:AH}:bodyX res R .ret s H = ∃ H',unwA s.ds H=some H'∧∃ v,qf8 H' s res=some v∧R v H':=by
  simp only [bodyX,exists_and_left]
theorem ex_pair {α β:Type} {a:α} {b:β} {R:α→β→Prop}:(∃ v w,some (a,b)=some (v,w)∧R v w)=R a b:=by
  apply propext
  constructor
  · rintro⟨v,w,h,hr⟩;cases h;exact hr
  · intro h;exact⟨a,b,rfl,h⟩
theorem ex_trip {α β γ:Type} {a:α} {b:β} {c:γ} {R:α→β→γ→Prop}:(∃ u v w,some (a,b,c)=some (u,v,w)∧R u v w)=R a b c:=by
  apply propext
  constructor
  · rintro⟨u,v,w,h,hr⟩;cases h;exact hr
  · intro h;exact⟨a,b,c,rfl,h⟩
theorem unwA_nil {H:AH}:unwA [] H=some H:=_root_.id rfl
end Go.Sim

namespace Go.Sim
open Go
inductive Tr where
  | nil
  | node (v:Value) (l r:Tr)
noncomputable def Tr.get (t:Tr):Nat→Value:=
  Tr.rec (fun _=>undef) (fun v _ _ gl gr n=>Bool.rec (Bool.rec (gr (Nat.sub (Nat.div n 2) 1)) (gl (Nat.div n 2)) (Nat.beq (Nat.mod n 2) 1)) v (Nat.beq n 0)) t
theorem recB {α:Type} (b:Bool) (x y:α):(Bool.rec x y b:α)=bif b then y else x:=by cases b<;>rfl
theorem Tr.get_nil (n:Nat):Tr.get .nil n=undef:=rfl
theorem Tr.get_node (v:Value) (l r:Tr) (n:Nat):(Tr.node v l r).get n=bif Nat.beq n 0 then v else bif Nat.beq (n % 2) 1 then l.get (n / 2) else r.get (n / 2-1):=by
  change (Bool.rec _ _ _:Value)=_
  rw [recB,recB];rfl
noncomputable def Tr.setF (f:Nat):Tr→Nat→Value→Tr:=
  Nat.rec (fun t _ _=>t) (fun _ ih t n v =>
    Tr.rec (Bool.rec (Bool.rec (.node undef .nil (ih .nil (Nat.sub (Nat.div n 2) 1) v)) (.node undef (ih .nil (Nat.div n 2) v) .nil) (Nat.beq (Nat.mod n 2) 1)) (.node v .nil .nil) (Nat.beq n 0))
      (fun u l r _ _=>Bool.rec (Bool.rec (.node u l (ih r (Nat.sub (Nat.div n 2) 1) v)) (.node u (ih l (Nat.div n 2) v) r) (Nat.beq (Nat.mod n 2) 1)) (.node v l r) (Nat.beq n 0)) t) f
theorem Tr.setF_nil (f n:Nat) (v:Value):Tr.setF (f+1) .nil n v=bif Nat.beq n 0 then .node v .nil .nil else bif Nat.beq (n % 2) 1 then .node undef (Tr.setF f .nil (n / 2) v) .nil else .node undef .nil (Tr.setF f .nil (n / 2-1) v):=by
  change (Bool.rec _ _ _:Tr)=_
  rw [recB,recB];rfl
theorem Tr.setF_node (f n:Nat) (v u:Value) (l r:Tr):Tr.setF (f+1) (.node u l r) n v=bif Nat.beq n 0 then .node v l r else bif Nat.beq (n % 2) 1 then .node u (Tr.setF f l (n / 2) v) r else .node u l (Tr.setF f r (n / 2-1) v):=by
  change (Bool.rec _ _ _:Tr)=_
  rw [recB,recB];rfl
theorem qdt (a b:Nat):Nat.beq a b=decide (a=b):=by
  rw [Bool.eq_iff_iff];simp
theorem Tr.get_set:∀ (f:Nat) (t:Tr) (n:Nat) (v:Value) (x:Nat),n<f→(Tr.setF f t n v).get x=if x=n then v else t.get x
  | 0,_,_,_,_,h=>by omega
  | f + 1, t, n,v,x,h=>by
    cases t with
    | nil =>
      rw [setF_nil]
      by_cases h0:n=0
      · subst h0
        simp only [qdt,decide_true,cond_true,get_node,get_nil]
        by_cases hx:x=0
        · subst hx;simp
        · simp [hx]
      · by_cases h1:n % 2=1
        · simp only [qdt,h0,h1,decide_true,decide_false,cond_true,cond_false,get_node,get_nil]
          rw [get_set f _ _ _ _ (by omega)]
          by_cases hx:x=0
          · subst hx;simp;omega
          · by_cases hx1:x % 2=1
            · simp only [hx,hx1,decide_true,decide_false,cond_true,cond_false,get_nil]
              by_cases hh:x=n
              · subst hh;simp
              · rw [if_neg (by omega),if_neg hh]
            · simp only [hx,hx1,decide_false,cond_false]
              rw [if_neg (by rintro rfl;exact hx1 h1)]
        · simp only [qdt,h0,h1,decide_false,cond_false,get_node,get_nil]
          rw [get_set f _ _ _ _ (by omega)]
          by_cases hx:x=0
          · subst hx;simp;omega
          · by_cases hx1:x % 2=1
            · simp only [hx,hx1,decide_true,decide_false,cond_true,cond_false]
              rw [if_neg (by rintro rfl;exact h1 hx1)]
            · simp only [hx,hx1,decide_false,cond_false,get_nil]
              by_cases hh:x=n
              · subst hh;simp
              · rw [if_neg (by omega),if_neg hh]
    | node u l r =>
      rw [setF_node]
      by_cases h0:n=0
      · subst h0
        simp only [qdt,decide_true,cond_true,get_node]
        by_cases hx:x=0
        · subst hx;simp
        · simp [hx]
      · by_cases h1:n % 2=1
        · simp only [qdt,h0,h1,decide_true,decide_false,cond_true,cond_false,get_node]
          rw [get_set f _ _ _ _ (by omega)]
          by_cases hx:x=0
          · subst hx;simp;omega
          · by_cases hx1:x % 2=1
            · simp only [hx,hx1,decide_true,decide_false,cond_true,cond_false]
              by_cases hh:x=n
              · subst hh;simp
              · rw [if_neg (by omega),if_neg hh]
            · simp only [hx,hx1,decide_false,cond_false]
              rw [if_neg (by rintro rfl;exact hx1 h1)]
        · simp only [qdt,h0,h1,decide_false,cond_false,get_node]
          rw [get_set f _ _ _ _ (by omega)]
          by_cases hx:x=0
          · subst hx;simp;omega
          · by_cases hx1:x % 2=1
            · simp only [hx,hx1,decide_true,decide_false,cond_true,cond_false]
              rw [if_neg (by rintro rfl;exact h1 hx1)]
            · simp only [hx,hx1,decide_false,cond_false]
              by_cases hh:x=n
              · subst hh;simp
              · rw [if_neg (by omega),if_neg hh]
noncomputable def qdv {α:Type} (n:Nat) (K:Nat→α):α:=Nat.rec (K 0) (fun m _=>K (m+1)) n
theorem qd2 {α:Type} (n:Nat) (K:Nat→α):qdv n K=K n:=by cases n<;>rfl
noncomputable def forceI {α:Type} (n:Int) (K:Int→α):α:=Int.rec (fun m=>qdv m fun m=>K (.ofNat m)) (fun m=>qdv m fun m=>K (.negSucc m)) n
theorem forceI_eq {α:Type} (n:Int) (K:Int→α):forceI n K=K n:=by
  cases n with
  | ofNat m=>exact qd2 m fun m=>K (.ofNat m)
  | negSucc m=>exact qd2 m fun m=>K (.negSucc m)
noncomputable def forceB {α:Type} (b:Bool) (K:Bool→α):α:=Bool.rec (K false) (K true) b
theorem forceB_eq {α:Type} (b:Bool) (K:Bool→α):forceB b K=K b:=by cases b<;>rfl
noncomputable def forceP {α:Type} (a:Addr) (K:Addr→α):α:=Addr.rec (fun b o s=>Option.rec (qdv b fun b=>qdv o fun o=>K ⟨b,o,none⟩) (fun x=>K ⟨b,o,some x⟩) s) a
theorem forceP_eq {α:Type} (a:Addr) (K:Addr→α):forceP a K=K a:=by
  obtain⟨b,o,s⟩:=a
  cases s with
  | none =>
    change qdv b (fun b=>qdv o fun o=>K ⟨b,o,none⟩)=_
    simp only [qd2]
  | some x=>rfl
noncomputable def forceA {α:Type} (a:Option Addr) (K:Option Addr→α):α:=Option.rec (K none) (fun a=>forceP a fun a=>K (some a)) a
theorem forceA_eq {α:Type} (a:Option Addr) (K:Option Addr→α):forceA a K=K a:=by
  cases a with
  | none=>rfl
  | some a=>exact forceP_eq a fun a=>K (some a)
noncomputable def forceVf {α:Type} (v:Value):Value→(Value→α)→α:=
  Value.casesOn (motive_1:=fun _=>Value→(Value→α)→α) v (fun b _ K=>forceB b fun b=>K (.bool b)) (fun k n _ K=>forceI n fun n=>K (.int k n)) (fun _ _ v K=>K v) (fun _ _ _ v K=>K v) (fun _ v K=>K v) (fun a _ K=>forceA a fun a=>K (.pointer a))
    (fun a l c _ K=>forceA a fun a=>qdv l fun l=>qdv c fun c=>K (.slice a l c)) (fun _ v K=>K v) (fun _ v K=>K v) (fun _ _ _ v K=>K v) (fun v K=>K v) (fun _ _ v K=>K v) (fun v K=>K v) (fun _ v K=>K v) (fun _ v K=>K v)
noncomputable def forceV {α:Type} (v:Value) (K:Value→α):α:=forceVf v v K
theorem forceV_eq {α:Type} (v:Value) (K:Value→α):forceV v K=K v:=by
  cases v with
  | bool b=>exact forceB_eq b fun b=>K (.bool b)
  | int k n=>exact forceI_eq n fun n=>K (.int k n)
  | pointer a=>exact forceA_eq a fun a=>K (.pointer a)
  | slice a l c =>
    change forceA a (fun a=>qdv l fun l=>qdv c fun c=>K (.slice a l c))=_
    simp only [forceA_eq,qd2]
  | _=>rfl
noncomputable def nth {α:Type} (l:List α) (n:Nat):Option α:=Nat.rec (motive:=fun _=>List α→Option α) (fun l=>List.rec none (fun a _ _=>some a) l) (fun _ ih l=>List.rec none (fun _ t _=>ih t) l) n l
theorem nth_eq {α:Type} (n:Nat):∀ (l:List α),nth l n=l[n]?:=by
  induction n with
  | zero=>intro l;cases l<;>rfl
  | succ n ih=>intro l;cases l with
    | nil=>rfl
    | cons a l=>exact (ih l).trans (by simp)
noncomputable def setN {α:Type} (l:List α) (n:Nat) (v:α):List α:=Nat.rec (motive:=fun _=>List α→List α) (fun l=>List.rec [] (fun _ t _=>v :: t) l) (fun _ ih l=>List.rec [] (fun a t _=>a :: ih t) l) n l
theorem setN_eq {α:Type} (v:α) (n:Nat):∀ (l:List α),setN l n v=l.set n v:=by
  induction n with
  | zero=>intro l;cases l<;>rfl
  | succ n ih=>intro l;cases l with
    | nil=>rfl
    | cons a l=>exact congrArg (a :: ·) (ih l)
noncomputable def lenN {α:Type} (l:List α):Nat:=List.rec 0 (fun _ _ ih=>Nat.succ ih) l
theorem lenN_eq {α:Type} (l:List α):lenN l=l.length:=by
  induction l with
  | nil=>rfl
  | cons a l ih=>exact congrArg Nat.succ ih
noncomputable def withIf {α:Type} (v:Value):α→(Nat→α)→α:=
  Value.casesOn (motive_1:=fun _=>α→(Nat→α)→α) v (fun _ d _=>d) (fun k n=>IntKind.rec (fun _ d _=>d) (fun _ d _=>d) (fun _ d _=>d) (fun n=>Int.rec (fun m _ K=>K m) (fun _ d _=>d) n) (fun _ d _=>d) (fun _ d _=>d) (fun _ d _=>d) (fun _ d _=>d) k n) (fun _ _ d _=>d) (fun _ _ _ d _=>d) (fun _ d _=>d) (fun _ d _=>d) (fun _ _ _ d _=>d) (fun _ d _=>d) (fun _ d _=>d) (fun _ _ _ d _=>d) (fun d _=>d) (fun _ _ d _=>d) (fun d _=>d) (fun _ d _=>d) (fun _ d _=>d)
noncomputable def qg9 {α:Type} (d:α) (v:Value) (K:Nat→α):α:=withIf v d K
theorem qn9 {α:Type} {d:α} {v:Value} {K:Nat→α}:(∃ m,v=nv m∧qg9 d v K=K m)∨qg9 d v K=d:=by
  cases v with
  | int k n =>
    cases k<;>first|exact .inr rfl|skip
    cases n with
    | ofNat m=>exact .inl ⟨m,rfl,rfl⟩
    | negSucc m=>exact .inr rfl
  | _=>exact .inr rfl
noncomputable def resN (n:Nat) (d:Option Value):Option Value:=Bool.rec d (some (.int .i64 (.ofNat n))) (Nat.blt n 9223372036854775808)
theorem resN_eq {n:Nat} {d:Option Value}:(n<9223372036854775808∧resN n d=some (nv n))∨resN n d=d:=by
  unfold resN
  cases h:Nat.blt n 9223372036854775808 with
  | false=>exact .inr rfl
  | true=>exact .inl ⟨by simpa using h,rfl⟩
noncomputable def qNf (op:BinOp):Nat→Nat→Option Value→Option Value:=
  BinOp.rec (fun a b d=>resN (Nat.add a b) d) (fun a b d=>Bool.rec d (resN (Nat.sub a b) d) (Nat.ble b a)) (fun a b d=>resN (Nat.mul a b) d) (fun a b d=>Bool.rec (Bool.rec d (resN (Nat.div a b) d) (Nat.blt a 9223372036854775808)) d (Nat.beq b 0)) (fun a b d=>Bool.rec (some (.int .i64 (.ofNat (Nat.mod a b)))) d (Nat.beq b 0))
    (fun _ _ d=>d) (fun _ _ d=>d) (fun _ _ d=>d) (fun _ _ d=>d) (fun _ _ d=>d) (fun _ _ d=>d)
    (fun a b _=>some (.bool (Nat.beq a b))) (fun a b _=>some (.bool (Bool.rec true false (Nat.beq a b)))) (fun a b _=>some (.bool (Nat.blt a b))) (fun a b _=>some (.bool (Nat.ble a b))) (fun a b _=>some (.bool (Nat.blt b a))) (fun a b _=>some (.bool (Nat.ble b a))) op
noncomputable def qN (op:BinOp) (a b:Nat) (d:Option Value):Option Value:=qNf op a b d
theorem blt_iff (a b:Nat):Nat.blt a b=decide (a<b):=by rw [Bool.eq_iff_iff];simp
theorem ble_iff (a b:Nat):Nat.ble a b=decide (a≤b):=by rw [Bool.eq_iff_iff];simp
theorem qN_eq {op:BinOp} {a b m:Nat} {v:Value} (h:qN op a b (xbin op m (nv a) (nv b))=some v):xbin op m (nv a) (nv b)=some v:=by
  cases op
  case add =>
    change resN (a+b) _=_ at h
    rcases resN_eq (n:=a+b) (d:=xbin .add m (nv a) (nv b)) with ⟨h1,h2⟩|h2<;>rw [h2] at h
    · rw [qj3 h1];exact h
    · exact h
  case sub =>
    change (Bool.rec _ (resN (a-b) _) (Nat.ble b a):Option Value)=_ at h
    cases hb:Nat.ble b a with
    | false=>rw [hb] at h;exact h
    | true =>
      rw [hb] at h
      change resN (a-b) _=_ at h
      have hle:b≤a:=by simpa using hb
      rcases resN_eq (n:=a-b) (d:=xbin .sub m (nv a) (nv b)) with ⟨h1,h2⟩|h2<;>rw [h2] at h
      · have e:xbin .sub m (nv a) (nv b)=some (nv (a-b)):=by
          rw [qhw,qg5 (by omega) (by omega)];congr 2;omega
        rw [e];exact h
      · exact h
  case mul =>
    change resN (a*b) _=_ at h
    rcases resN_eq (n:=a*b) (d:=xbin .mul m (nv a) (nv b)) with ⟨h1,h2⟩|h2<;>rw [h2] at h
    · rw [qp0 h1];exact h
    · exact h
  case quo =>
    change (Bool.rec (Bool.rec _ (resN (a / b) _) (Nat.blt a _)) _ (Nat.beq b 0):Option Value)=_ at h
    cases hb:Nat.beq b 0 with
    | true=>rw [hb] at h;exact h
    | false =>
      rw [hb] at h
      have hb0:b≠0:=by rw [qdt] at hb;simpa using hb
      change (Bool.rec _ (resN (a / b) _) (Nat.blt a _):Option Value)=_ at h
      cases ha:Nat.blt a 9223372036854775808 with
      | false=>rw [ha] at h;exact h
      | true =>
        rw [ha] at h
        change resN (a / b) _=_ at h
        have ha0:a<9223372036854775808:=by simpa using ha
        rcases resN_eq (n:=a / b) (d:=xbin .quo m (nv a) (nv b)) with ⟨h1,h2⟩|h2<;>rw [h2] at h
        · rw [qpx hb0 ha0];exact h
        · exact h
  case rem =>
    change (Bool.rec (some (nv (a % b))) _ (Nat.beq b 0):Option Value)=_ at h
    cases hb:Nat.beq b 0 with
    | true=>rw [hb] at h;exact h
    | false =>
      rw [hb] at h
      have hb0:b≠0:=by rw [qdt] at hb;simpa using hb
      rw [qj1 hb0];exact h
  case eql =>
    change some (Value.bool (Nat.beq a b))=_ at h
    rw [qp5,←qdt];exact h
  case neq =>
    change some (Value.bool (Bool.rec true false (Nat.beq a b)))=_ at h
    rw [recB,qdt] at h
    rw [qpz,←h]
    by_cases e:a=b<;>simp [e]
  case lss =>
    change some (Value.bool (Nat.blt a b))=_ at h
    rw [qp1,←blt_iff];exact h
  case leq =>
    change some (Value.bool (Nat.ble a b))=_ at h
    rw [qp2,←ble_iff];exact h
  case gtr =>
    change some (Value.bool (Nat.blt b a))=_ at h
    rw [qp3,←blt_iff];exact h
  case geq =>
    change some (Value.bool (Nat.ble b a))=_ at h
    rw [qp4,←ble_iff];exact h
  all_goals exact h
end Go.Sim

namespace Go.Sim
open Go
noncomputable def withBf {α:Type} (v:Value):α→(Bool→α)→α:=
  Value.casesOn (motive_1:=fun _=>α→(Bool→α)→α) v (fun b _ K=>K b) (fun _ _ d _=>d) (fun _ _ d _=>d) (fun _ _ _ d _=>d) (fun _ d _=>d) (fun _ d _=>d) (fun _ _ _ d _=>d) (fun _ d _=>d) (fun _ d _=>d) (fun _ _ _ d _=>d) (fun d _=>d) (fun _ _ d _=>d) (fun d _=>d) (fun _ d _=>d) (fun _ d _=>d)
noncomputable def withB {α:Type} (d:α) (v:Value) (K:Bool→α):α:=withBf v d K
theorem withB_eq {α:Type} {d:α} {v:Value} {K:Bool→α}:(∃ b,v=.bool b∧withB d v K=K b)∨withB d v K=d:=by
  cases v with
  | bool b=>exact .inl ⟨b,rfl,rfl⟩
  | _=>exact .inr rfl
noncomputable def withA {α:Type} (d:α) (a:Option Addr) (K:Nat→Nat→α):α:=Option.rec d (fun a=>Addr.rec (fun b o s=>Option.rec (K b o) (fun _=>d) s) a) a
theorem withA_eq {α:Type} {d:α} {a:Option Addr} {K:Nat→Nat→α}:(∃ b o,a=some ⟨b,o,none⟩∧withA d a K=K b o)∨withA d a K=d:=by
  cases a with
  | none=>exact .inr rfl
  | some a =>
    obtain⟨b,o,s⟩:=a
    cases s with
    | none=>exact .inl ⟨b,o,rfl,rfl⟩
    | some s=>exact .inr rfl
noncomputable def withPf {α:Type} (v:Value):α→(Nat→Nat→α)→α:=
  Value.casesOn (motive_1:=fun _=>α→(Nat→Nat→α)→α) v (fun _ d _=>d) (fun _ _ d _=>d) (fun _ _ d _=>d) (fun _ _ _ d _=>d) (fun _ d _=>d) (fun a d K=>withA d a K) (fun _ _ _ d _=>d) (fun _ d _=>d) (fun _ d _=>d) (fun _ _ _ d _=>d) (fun d _=>d) (fun _ _ d _=>d) (fun d _=>d) (fun _ d _=>d) (fun _ d _=>d)
noncomputable def qnt {α:Type} (d:α) (v:Value) (K:Nat→Nat→α):α:=withPf v d K
theorem qn8 {α:Type} {d:α} {v:Value} {K:Nat→Nat→α}:(∃ b o,v=.pointer (some ⟨b,o,none⟩)∧qnt d v K=K b o)∨qnt d v K=d:=by
  cases v with
  | pointer a =>
    rcases withA_eq (d:=d) (a:=a) (K:=K) with ⟨b,o,h,h2⟩|h
    · exact .inl ⟨b,o,by rw [h],h2⟩
    · exact .inr h
  | _=>exact .inr rfl
noncomputable def withSf {α:Type} (v:Value):α→(Nat→Nat→Nat→Nat→α)→α:=
  Value.casesOn (motive_1:=fun _=>α→(Nat→Nat→Nat→Nat→α)→α) v (fun _ d _=>d) (fun _ _ d _=>d) (fun _ _ d _=>d) (fun _ _ _ d _=>d) (fun _ d _=>d) (fun _ d _=>d) (fun a l c d K=>withA d a fun b o=>K b o l c) (fun _ d _=>d) (fun _ d _=>d) (fun _ _ _ d _=>d) (fun d _=>d) (fun _ _ d _=>d) (fun d _=>d) (fun _ d _=>d) (fun _ d _=>d)
noncomputable def withS {α:Type} (d:α) (v:Value) (K:Nat→Nat→Nat→Nat→α):α:=withSf v d K
theorem withS_eq {α:Type} {d:α} {v:Value} {K:Nat→Nat→Nat→Nat→α}:(∃ b o l c,v=.slice (some ⟨b,o,none⟩) l c∧withS d v K=K b o l c)∨withS d v K=d:=by
  cases v with
  | slice a l c =>
    rcases withA_eq (d:=d) (a:=a) (K:=fun b o=>K b o l c) with ⟨b,o,h,h2⟩|h
    · exact .inl ⟨b,o,l,c,by rw [h],h2⟩
    · exact .inr h
  | _=>exact .inr rfl
noncomputable def one1 {α:Type} (d:α) (vs:List Value) (K:Value→α):α:=List.rec d (fun a t _=>List.rec (K a) (fun _ _ _=>d) t) vs
theorem qqw {α:Type} {d:α} {vs:List Value} {K:Value→α}:(∃ a,vs=[a]∧one1 d vs K=K a)∨one1 d vs K=d:=by
  rcases vs with _|⟨a,_|⟨b,t⟩⟩
  · exact .inr rfl
  · exact .inl ⟨a,rfl,rfl⟩
  · exact .inr rfl
noncomputable def two2 {α:Type} (d:α) (vs:List Value) (K:Value→Value→α):α:=List.rec d (fun a t _=>List.rec d (fun b t _=>List.rec (K a b) (fun _ _ _=>d) t) t) vs
theorem two2_eq {α:Type} {d:α} {vs:List Value} {K:Value→Value→α}:(∃ a b,vs=[a,b]∧two2 d vs K=K a b)∨two2 d vs K=d:=by
  rcases vs with _|⟨a,_|⟨b,_|⟨c,t⟩⟩⟩
  · exact .inr rfl
  · exact .inr rfl
  · exact .inl ⟨a,b,rfl,rfl⟩
  · exact .inr rfl
noncomputable def three3 {α:Type} (d:α) (vs:List Value) (K:Value→Value→Value→α):α:=List.rec d (fun a t _=>List.rec d (fun b t _=>List.rec d (fun c t _=>List.rec (K a b c) (fun _ _ _=>d) t) t) t) vs
theorem three3_eq {α:Type} {d:α} {vs:List Value} {K:Value→Value→Value→α}:(∃ a b c,vs=[a,b,c]∧three3 d vs K=K a b c)∨three3 d vs K=d:=by
  rcases vs with _|⟨a,_|⟨b,_|⟨c,_|⟨e,t⟩⟩⟩⟩
  · exact .inr rfl
  · exact .inr rfl
  · exact .inr rfl
  · exact .inl ⟨a,b,c,rfl,rfl⟩
  · exact .inr rfl
noncomputable def qMov (vs:List Value):Option Value:=one1 none vs some
noncomputable def qPick (d:Option Value) (vs:List Value):Option Value:=three3 d vs fun c a b=>withB d c fun t=>Bool.rec (some b) (some a) t
noncomputable def qBin (op:BinOp) (m:Nat) (vs:List Value):Option Value:=two2 none vs fun a b=>qg9 (xbin op m a b) a fun i=>qg9 (xbin op m a b) b fun j=>qN op i j (xbin op m a b)
noncomputable def qFld (off:Nat) (d:Option Value) (vs:List Value):Option Value:=one1 d vs fun p=>qnt d p fun b o=>some (.pointer (some ⟨b,Nat.add o off,none⟩))
noncomputable def qIxA (len sz:Nat) (d:Option Value) (vs:List Value):Option Value:=two2 d vs fun p i=>qnt d p fun b o=>qg9 d i fun n=>Bool.rec d (some (.pointer (some ⟨b,Nat.add o (Nat.mul n sz),none⟩))) (Nat.blt n len)
noncomputable def qIxS (sz:Nat) (d:Option Value) (vs:List Value):Option Value:=two2 d vs fun p i=>withS d p fun b o l _=>qg9 d i fun n=>Bool.rec d (some (.pointer (some ⟨b,Nat.add o (Nat.mul n sz),none⟩))) (Nat.blt n l)
noncomputable def qLenS (d:Option Value) (vs:List Value):Option Value:=one1 d vs fun p=>withS d p fun _ _ l _=>some (.int .i64 (.ofNat l))
noncomputable def qLenA (n:Nat) (vs:List Value):Option Value:=one1 none vs fun _=>some (.int .i64 (.ofNat n))
noncomputable def qpuref (x:XO):Option Value→List Value→Option Value:=
  XO.casesOn (motive:=fun _=>Option Value→List Value→Option Value) x (fun _ vs=>qMov vs) qPick (fun op m _ vs=>qBin op m vs) (fun _ d _=>d) (fun _ d _=>d) (fun _ d _=>d) (fun _ _ _=>none) (fun _ _ _ _=>none) (fun _ _ _=>none) (fun _ _ _=>none)
    qFld qIxA qIxS (fun _ _ _ _ d _=>d) (fun _ _ _ d _=>d) (fun _ _ _ _ _ _=>none) (fun _ _ _ _ _ _=>none) (fun _ _ _ d _=>d)
    (fun n _ vs=>qLenA n vs) qLenS (fun d _=>d) (fun d _=>d) (fun d _=>d) (fun _ _ _ _ _=>none) (fun _ _ d _=>d) (fun _ _ d _=>d) (fun _ _ _ d _=>d) (fun _ _=>none) (fun d _=>d) (fun _ _=>none) (fun _ _ _=>none) (fun _ _ _ _ _ _=>none) (fun d _=>d) (fun _ _ d _=>d) (fun d _=>d) (fun _ d _=>d) (fun _ d _=>d) (fun _ _ _=>none)
noncomputable def qpure (x:XO) (vs:List Value):Option Value:=qpuref x (qbc x vs) vs
theorem qpure_eq {x:XO} {vs:List Value} {v:Value} (h:qpure x vs=some v):qbc x vs=some v:=by
  cases x
  case mov =>
    change one1 none vs some=_ at h
    rcases qqw (d:=none) (vs:=vs) (K:=some) with ⟨a,rfl,h2⟩|h2
    · rw [h2] at h;exact h
    · rw [h2] at h;cases h
  case pick =>
    change three3 _ vs (fun c a b=>withB (qbc .pick vs) c fun t=>Bool.rec (some b) (some a) t)=_ at h
    rcases three3_eq (d:=qbc .pick vs) (vs:=vs) (K:=fun c a b=>withB (qbc .pick vs) c fun t=>Bool.rec (some b) (some a) t) with ⟨c,a,b,e,h2⟩|h2
    · rw [h2] at h
      rcases withB_eq (d:=qbc .pick vs) (v:=c) (K:=fun t=>(Bool.rec (some b) (some a) t:Option Value)) with ⟨t,e2,h3⟩|h3
      · rw [h3] at h
        rw [e,e2]
        cases t<;>exact h
      · rw [h3] at h;exact h
    · rw [h2] at h;exact h
  case bin op m =>
    change two2 none vs (fun a b=>qg9 (xbin op m a b) a fun i=>qg9 (xbin op m a b) b fun j=>qN op i j (xbin op m a b))=_ at h
    rcases two2_eq (d:=none) (vs:=vs) (K:=fun a b=>qg9 (xbin op m a b) a fun i=>qg9 (xbin op m a b) b fun j=>qN op i j (xbin op m a b)) with ⟨a,b,e,h2⟩|h2
    · rw [h2] at h
      rw [e]
      change xbin op m a b=_
      rcases qn9 (d:=xbin op m a b) (v:=a) (K:=fun i=>qg9 (xbin op m a b) b fun j=>qN op i j (xbin op m a b)) with ⟨i,e2,h3⟩|h3
      · rw [h3] at h
        rcases qn9 (d:=xbin op m a b) (v:=b) (K:=fun j=>qN op i j (xbin op m a b)) with ⟨j,e3,h4⟩|h4
        · rw [h4] at h
          subst e2 e3
          exact qN_eq h
        · rw [h4] at h;exact h
      · rw [h3] at h;exact h
    · rw [h2] at h;cases h
  case fld off =>
    change one1 _ vs (fun p=>qnt (qbc (.fld off) vs) p fun b o=>some (.pointer (some ⟨b,o+off,none⟩)))=_ at h
    rcases qqw (d:=qbc (.fld off) vs) (vs:=vs) (K:=fun p=>qnt (qbc (.fld off) vs) p fun b o=>some (.pointer (some ⟨b,o+off,none⟩))) with ⟨a,e,h2⟩|h2
    · rw [h2] at h
      rcases qn8 (d:=qbc (.fld off) vs) (v:=a) (K:=fun b o=>some (Value.pointer (some ⟨b,o+off,none⟩))) with ⟨b,o,e2,h3⟩|h3
      · rw [h3] at h
        rw [e,e2,xp_fld'];exact h
      · rw [h3] at h;exact h
    · rw [h2] at h;exact h
  case ixA len sz =>
    change two2 _ vs (fun p i=>qnt (qbc (.ixA len sz) vs) p fun b o=>qg9 (qbc (.ixA len sz) vs) i fun n=>Bool.rec (qbc (.ixA len sz) vs) (some (.pointer (some ⟨b,o+n*sz,none⟩))) (Nat.blt n len))=_ at h
    rcases two2_eq (d:=qbc (.ixA len sz) vs) (vs:=vs) (K:=fun p i=>qnt (qbc (.ixA len sz) vs) p fun b o=>qg9 (qbc (.ixA len sz) vs) i fun n=>Bool.rec (qbc (.ixA len sz) vs) (some (.pointer (some ⟨b,o+n*sz,none⟩))) (Nat.blt n len)) with ⟨p,i,e,h2⟩|h2
    · rw [h2] at h
      rcases qn8 (d:=qbc (.ixA len sz) vs) (v:=p) (K:=fun b o=>qg9 (qbc (.ixA len sz) vs) i fun n=>Bool.rec (qbc (.ixA len sz) vs) (some (.pointer (some ⟨b,o+n*sz,none⟩))) (Nat.blt n len)) with ⟨b,o,e2,h3⟩|h3
      · rw [h3] at h
        rcases qn9 (d:=qbc (.ixA len sz) vs) (v:=i) (K:=fun n=>(Bool.rec (qbc (.ixA len sz) vs) (some (.pointer (some ⟨b,o+n*sz,none⟩))) (Nat.blt n len):Option Value)) with ⟨n,e3,h4⟩|h4
        · rw [h4] at h
          cases hb:Nat.blt n len with
          | false=>rw [hb] at h;exact h
          | true =>
            rw [hb] at h
            rw [e,e2,e3,xp_ixAN (by simpa using hb)];exact h
        · rw [h4] at h;exact h
      · rw [h3] at h;exact h
    · rw [h2] at h;exact h
  case ixS sz =>
    change two2 _ vs (fun p i=>withS (qbc (.ixS sz) vs) p fun b o l _=>qg9 (qbc (.ixS sz) vs) i fun n=>Bool.rec (qbc (.ixS sz) vs) (some (.pointer (some ⟨b,o+n*sz,none⟩))) (Nat.blt n l))=_ at h
    rcases two2_eq (d:=qbc (.ixS sz) vs) (vs:=vs) (K:=fun p i=>withS (qbc (.ixS sz) vs) p fun b o l _=>qg9 (qbc (.ixS sz) vs) i fun n=>Bool.rec (qbc (.ixS sz) vs) (some (.pointer (some ⟨b,o+n*sz,none⟩))) (Nat.blt n l)) with ⟨p,i,e,h2⟩|h2
    · rw [h2] at h
      rcases withS_eq (d:=qbc (.ixS sz) vs) (v:=p) (K:=fun b o l _=>qg9 (qbc (.ixS sz) vs) i fun n=>Bool.rec (qbc (.ixS sz) vs) (some (.pointer (some ⟨b,o+n*sz,none⟩))) (Nat.blt n l)) with ⟨b,o,l,c,e2,h3⟩|h3
      · rw [h3] at h
        rcases qn9 (d:=qbc (.ixS sz) vs) (v:=i) (K:=fun n=>(Bool.rec (qbc (.ixS sz) vs) (some (.pointer (some ⟨b,o+n*sz,none⟩))) (Nat.blt n l):Option Value)) with ⟨n,e3,h4⟩|h4
        · rw [h4] at h
          cases hb:Nat.blt n l with
          | false=>rw [hb] at h;exact h
          | true =>
            rw [hb] at h
            rw [e,e2,e3,xp_ixSN (by simpa using hb)];exact h
        · rw [h4] at h;exact h
      · rw [h3] at h;exact h
    · rw [h2] at h;exact h
  case lenA n =>
    change one1 none vs (fun _=>some (nv n))=_ at h
    rcases qqw (d:=none) (vs:=vs) (K:=fun _=>some (nv n)) with ⟨a,rfl,h2⟩|h2
    · rw [h2] at h;exact h
    · rw [h2] at h;cases h
  case lenS =>
    change one1 _ vs (fun p=>withS (qbc .lenS vs) p fun _ _ l _=>some (nv l))=_ at h
    rcases qqw (d:=qbc .lenS vs) (vs:=vs) (K:=fun p=>withS (qbc .lenS vs) p fun _ _ l _=>some (nv l)) with ⟨a,e,h2⟩|h2
    · rw [h2] at h
      rcases withS_eq (d:=qbc .lenS vs) (v:=a) (K:=fun _ _ l _=>some (nv l)) with ⟨b,o,l,c,e2,h3⟩|h3
      · rw [h3] at h
        rw [e,e2];exact h
      · rw [h3] at h;exact h
    · rw [h2] at h;exact h
  all_goals first|exact h|(cases h;done)
noncomputable def withC {α:Type} (d:α) (x:Option AB) (K:List Value→TypeId→Option Nat→Bool→α):α:=Option.rec d (fun x=>AB.rec (fun c e o r=>K c e o r) (fun _=>d) (fun _=>d) d x) x
theorem withC_eq {α:Type} {d:α} {x:Option AB} {K:List Value→TypeId→Option Nat→Bool→α}:(∃ c e o r,x=some (.cells c e o r)∧withC d x K=K c e o r)∨withC d x K=d:=by
  rcases x with _|(⟨c,e,o,r⟩|_|_|_)
  · exact .inr rfl
  · exact .inl ⟨c,e,o,r,rfl,rfl⟩
  · exact .inr rfl
  · exact .inr rfl
  · exact .inr rfl
noncomputable def qload (sz:Option Nat) (H:AH) (vs:List Value):Option Value:=
  one1 none vs fun p=>qnt none p fun b o=>withC none (nth H b) fun c _ _ _=>Option.rec (nth c o) (fun n=>qdc (some n) c o) sz
theorem qload_eq {sz:Option Nat} {H:AH} {vs:List Value} {v:Value} (h:qload sz H vs=some v):qbh sz H vs=some v:=by
  unfold qload at h
  rcases qqw (d:=none) (vs:=vs) (K:=fun p=>qnt none p fun b o=>withC none (nth H b) fun c _ _ _=>Option.rec (nth c o) (fun n=>qdc (some n) c o) sz) with ⟨p,e,h2⟩|h2
  · rw [h2] at h
    rcases qn8 (d:=none) (v:=p) (K:=fun b o=>withC none (nth H b) fun c _ _ _=>Option.rec (nth c o) (fun n=>qdc (some n) c o) sz) with ⟨b,o,e2,h3⟩|h3
    · rw [h3] at h
      rcases withC_eq (d:=none) (x:=nth H b) (K:=fun c _ _ _=>(Option.rec (nth c o) (fun n=>qdc (some n) c o) sz:Option Value)) with ⟨c,el,op,r,e3,h4⟩|h4
      · rw [h4] at h
        rw [nth_eq] at e3
        rw [e,e2,qfx e3]
        cases sz with
        | none=>rw [qk2,←nth_eq];exact h
        | some n=>exact h
      · rw [h4] at h;cases h
    · rw [h3] at h;cases h
  · rw [h2] at h;cases h
noncomputable def isOne (v:Value):Bool:=Value.casesOn (motive_1:=fun _=>Bool) v (fun _=>true) (fun _ _=>true) (fun _ _=>true) (fun _ _ _=>true) (fun _=>true) (fun _=>true) (fun _ _ _=>true) (fun _=>true) (fun _=>true) (fun _ _ _=>true) true (fun _ _=>true) true (fun _=>false) (fun _=>false)
theorem isOne_eq {v:Value} (h:isOne v=true):qbn v=[v]∧one v=true:=by
  cases v with
  | agg _=>cases h
  | tuple _=>cases h
  | _=>exact⟨rfl,rfl⟩
noncomputable def qst (sz:Nat) (H:AH) (vs:List Value) (d:Option (Value×AH)):Option (Value×AH):=
  two2 d vs fun p v=>qnt d p fun b o=>withC d (nth H b) fun c e op r=>Bool.rec (Bool.rec d (Bool.rec d (Option.rec d (fun _=>some (undef,setN H b (.cells (setN c o v) e op false))) (nth c o)) (isOne v)) (Nat.beq sz 1)) d r
theorem qst_eq {sz:Nat} {H:AH} {vs:List Value} {r:Value×AH} (h:qst sz H vs (xact (.st sz) H vs)=some r):xact (.st sz) H vs=some r:=by
  generalize hd:xact (.st sz) H vs=d at h
  rw [←hd]
  have hdd:∀ {r'},d=some r'→xact (.st sz) H vs=some r':=fun h=>hd.trans h
  unfold qst at h
  rcases two2_eq (d:=d) (vs:=vs) (K:=fun p v=>qnt d p fun b o=>withC d (nth H b) fun c e op r=>Bool.rec (Bool.rec d (Bool.rec d (Option.rec d (fun _=>some (undef,setN H b (.cells (setN c o v) e op false))) (nth c o)) (isOne v)) (Nat.beq sz 1)) d r) with ⟨p,v,e,h2⟩|h2
  · rw [h2] at h
    rcases qn8 (d:=d) (v:=p) (K:=fun b o=>withC d (nth H b) fun c e op r=>Bool.rec (Bool.rec d (Bool.rec d (Option.rec d (fun _=>some (undef,setN H b (.cells (setN c o v) e op false))) (nth c o)) (isOne v)) (Nat.beq sz 1)) d r) with ⟨b,o,e2,h3⟩|h3
    · rw [h3] at h
      rcases withC_eq (d:=d) (x:=nth H b) (K:=fun c e op r=>(Bool.rec (Bool.rec d (Bool.rec d (Option.rec d (fun _=>some (undef,setN H b (.cells (setN c o v) e op false))) (nth c o)) (isOne v)) (Nat.beq sz 1)) d r:Option (Value×AH))) with ⟨c,el,op,rr,e3,h4⟩|h4
      · rw [h4] at h
        rw [nth_eq] at e3
        cases rr with
        | true=>exact hdd h
        | false =>
          cases hsz:Nat.beq sz 1 with
          | false=>rw [hsz] at h;exact hdd h
          | true =>
            rw [hsz] at h
            have hs1:sz=1:=by rw [qdt] at hsz;simpa using hsz
            cases ho:isOne v with
            | false=>rw [ho] at h;exact hdd h
            | true =>
              rw [ho] at h
              cases hn:nth c o with
              | none=>rw [hn] at h;exact hdd h
              | some u =>
                rw [hn] at h
                change some (undef,setN H b (.cells (setN c o v) el op false))=some r at h
                rw [setN_eq,setN_eq] at h
                rw [nth_eq] at hn
                have hlt:=(List.getElem?_eq_some_iff.1 hn).1
                subst hs1
                rw [e,e2,xact_st,e3,qfm (isOne_eq ho).1 (isOne_eq ho).2 hlt]
                exact h
      · rw [h4] at h;exact hdd h
    · rw [h3] at h;exact hdd h
  · rw [h2] at h;exact hdd h
noncomputable def qactf (x:XO):Option (Value×AH)→AH→List Value→Option (Value×AH):=
  XO.casesOn (motive:=fun _=>Option (Value×AH)→AH→List Value→Option (Value×AH)) x (fun _ _ _=>none) (fun _ _ _=>none) (fun _ _ _ _ _=>none) (fun _ _ _ _=>none) (fun _ _ _ _=>none) (fun _ _ _ _=>none) (fun _ _ _ _=>none) (fun _ _ _ _ _=>none) (fun _ _ _ _=>none) (fun sz d H vs=>qst sz H vs d)
    (fun _ _ _ _=>none) (fun _ _ _ _ _=>none) (fun _ _ _ _=>none) (fun _ _ _ _ _ _ _=>none) (fun _ _ _ _ _ _=>none) (fun _ _ _ _ _ _ _=>none) (fun _ _ _ _ _ _ _=>none) (fun _ _ _ _ _ _=>none)
    (fun _ _ _ _=>none) (fun _ _ _=>none) (fun _ _ _=>none) (fun _ _ _=>none) (fun _ _ _=>none) (fun _ _ _ d _ _=>d) (fun _ _ _ _ _=>none) (fun _ _ _ _ _=>none) (fun _ _ _ _ _ _=>none) (fun _ _ _=>none) (fun _ _ _=>none) (fun _ _ _=>none) (fun _ d _ _=>d) (fun _ _ _ _ d _ _=>d) (fun _ _ _=>none) (fun _ _ _ _ _=>none) (fun _ _ _=>none) (fun _ _ _ _=>none) (fun _ _ _ _=>none) (fun _ d _ _=>d)
noncomputable def qact (x:XO) (H:AH) (vs:List Value):Option (Value×AH):=qactf x (xact x H vs) H vs
theorem qact_eq {x:XO} {H:AH} {vs:List Value} {r:Value×AH} (h:qact x H vs=some r):xact x H vs=some r:=by
  cases x
  case st sz=>exact qst_eq h
  case app e sz bytes=>exact h
  case cpy sz=>exact h
  case apz z sz b e=>exact h
  case clr z=>exact h
  all_goals cases h
end Go.Sim

namespace Go.Sim
open Go
noncomputable def evT (t:Tr) (x:Operand):Value:=Operand.casesOn (motive:=fun _=>Value) x (fun x=>t.get x) (fun v=>v) (fun _=>undef) (fun f=>.func (.func f) #[] #[])
theorem evT_eq (t:Tr) (x:Operand):evT t x=ev ⟨t.get,[]⟩ x:=by cases x<;>rfl
noncomputable def mapE (t:Tr) (l:List Operand):List Value:=List.rec [] (fun a _ ih=>evT t a :: ih) l
theorem mapE_eq (t:Tr) (l:List Operand):mapE t l=l.map (ev ⟨t.get,[]⟩):=by
  induction l with
  | nil=>rfl
  | cons a l ih =>
    change evT t a :: mapE t l=_
    rw [evT_eq,ih];rfl
noncomputable def putK {α:Type} (t:Tr) (d:Option Tmp) (v:Value) (K:Tr→Option α):Option α:=
  Option.rec (K t) (fun d=>Bool.rec none (forceV v fun v=>K (Tr.setF 4096 t d v)) (Nat.blt d 4096)) d
theorem qk6 {α:Type} {t:Tr} {d:Option Tmp} {v:Value} {K:Tr→Option α} {r:α} (h:putK t d v K=some r):∃ t',(⟨t.get,[]⟩:St).put d v=⟨t'.get,[]⟩∧K t'=some r:=by
  cases d with
  | none=>exact⟨t,rfl,h⟩
  | some d =>
    change (Bool.rec none (forceV v fun v=>K (Tr.setF 4096 t d v)) (Nat.blt d 4096):Option α)=_ at h
    cases hb:Nat.blt d 4096 with
    | false=>rw [hb] at h;cases h
    | true =>
      rw [hb] at h
      change forceV v (fun v=>K (Tr.setF 4096 t d v))=_ at h
      rw [forceV_eq] at h
      have hlt:d<4096:=by simpa using hb
      refine⟨_,?_,h⟩
      unfold St.put
      simp only [St.mk.injEq,and_true]
      funext x
      rw [Tr.get_set _ _ _ _ _ hlt]
def eqS:Value→Value→Bool
  | .int k a,.int k' b=>k == k' && a == b
  | .bool a,.bool b=>a == b
  | .pointer (some ⟨a,o,none⟩),.pointer (some ⟨b,q,none⟩)=>a == b && o == q
  | .slice (some ⟨a,o,none⟩) l c,.slice (some ⟨b,q,none⟩) m d=>a == b && o == q && l == m && c == d
  | .slice none l c,.slice none m d=>l == m && c == d
  | _,_=>false
theorem eqS_eq {a b:Value} (h:eqS a b=true):a=b:=by
  unfold eqS at h
  split at h<;>simp_all
def eqL:List Value→List Value→Bool
  | [],[]=>true
  | a :: l,b :: m=>eqS a b && eqL l m
  | _,_=>false
theorem eqL_eq:∀ {a b:List Value},eqL a b=true→a=b
  | [],[],_=>rfl
  | a :: l,b :: m,h=>by
    simp only [eqL,Bool.and_eq_true] at h
    rw [eqS_eq h.1,eqL_eq h.2]
  | [],_ :: _,h=>by simp [eqL] at h
  | _ :: _,[],h=>by simp [eqL] at h
def eqV:Value→Value→Bool
  | .agg a,.agg b=>eqL a.toList b.toList
  | a,b=>eqS a b
theorem eqV_eq {a b:Value} (h:eqV a b=true):a=b:=by
  unfold eqV at h
  split at h
  · have:=eqL_eq h
    congr 1
    exact Array.ext' this
  · exact eqS_eq h
def chkB (c:List Nat) (D:List PL) (H:AH):Bool:=
  match c with
  | []=>true
  | c=>D.all fun p=>!(c.contains p.j) || (match qbh p.sz H p.vs with|some v=>eqV v p.v|none=>false)
theorem chkB_ok {c:List Nat} {D:List PL} {H:AH} (h:chkB c D H=true):chkX c D H:=by
  unfold chkB at h
  split at h
  · intro p _ hj;cases hj
  · intro p hp hj
    have:=List.all_eq_true.1 h p hp
    simp only [Bool.or_eq_true,Bool.not_eq_true',List.contains_eq_mem,decide_eq_false_iff_not] at this
    rcases this with h1|h1
    · exact absurd hj h1
    · split at h1
      · rename_i v hv
        rw [hv,eqV_eq h1]
      · cases h1
def okW (lo:Nat):List Value→Bool
  | .pointer (some a) :: _=>Nat.ble lo a.block
  | .slice (some a) _ _ :: _=>Nat.ble lo a.block
  | _=>true
def Keep (lo:Nat) (H H':AH):Prop:=lo≤H'.length∧∀ b,b<lo→H'[b]? = H[b]?
theorem Keep.refl {lo:Nat} {H:AH} (h:lo≤H.length):Keep lo H H:=⟨h,fun _ _=>rfl⟩
theorem Keep.trans {lo:Nat} {H H' H'':AH} (a:Keep lo H H') (b:Keep lo H' H''):Keep lo H H'':=⟨b.1,fun n hn=>(b.2 n hn).trans (a.2 n hn)⟩
theorem Keep.app {lo:Nat} {H:AH} (h:lo≤H.length) (Y:AH):Keep lo H (H++Y):=⟨by simp;omega,fun b hb=>List.getElem?_append_left (by omega)⟩
theorem Keep.set {lo:Nat} {H:AH} (h:lo≤H.length) {b:Nat} (hb:lo≤b) (x:AB):Keep lo H (H.set b x):=⟨by simpa using h,fun n hn=>List.getElem?_set_ne (by omega)⟩
theorem xact_keep {lo:Nat} {x:XO} {H H':AH} {vs:List Value} {v:Value} (hl:lo≤H.length) (hw:okW lo vs=true) (h:xact x H vs=some (v,H')):Keep lo H H':=by
  unfold xact at h
  split at h
  · rename_i sz a u
    have hb:lo≤a.block:=by simpa [okW] using hw
    split at h
    · split at h
      · cases h;exact Keep.set hl hb _
      · cases h
    · cases h
  · rename_i e sz bytes s u
    split at h
    · split at h
      · split at h
        · split at h
          · cases h;exact Keep.refl hl
          · cases h;exact Keep.app hl _
        · rename_i a l c _
          have hb:lo≤a.block:=by simpa [okW] using hw
          split at h
          · split at h
            · split at h
              · cases h;exact Keep.refl hl
              · split at h
                · cases h;exact Keep.set hl hb _
                · cases h
            · split at h
              · split at h
                · cases h;exact Keep.app hl _
                · cases h
              · split at h
                · cases h;exact (Keep.set hl hb .dead).trans (Keep.app (by simpa using hl) _)
                · cases h
          · cases h
        · cases h
      · cases h
    · cases h
  · rename_i sz a l c u
    have hb:lo≤a.block:=by simpa [okW] using hw
    split at h
    · split at h
      · split at h
        · cases h;exact Keep.set hl hb _
        · cases h
      · cases h
    · cases h
  · rename_i z a l c
    have hb:lo≤a.block:=by simpa [okW] using hw
    split at h
    · split at h
      · cases h;exact Keep.set hl hb _
      · cases h
    · cases h
  · split at h
    · cases h;exact Keep.app hl _
    · cases h
  · cases h
abbrev qf7:=FuncId→List Value→AH→Option (Value×AH)
noncomputable def chkK {α:Type} (c:List Nat) (D:List PL) (H:AH) (x:Option α):Option α:=List.rec x (fun a l _=>Bool.rec none x (chkB (a :: l) D H)) c
theorem chkK_eq {α:Type} {c:List Nat} {D:List PL} {H:AH} {x:Option α} {r:α} (h:chkK c D H x=some r):chkX c D H∧x=some r:=by
  cases c with
  | nil=>exact⟨(fun p _ hj=>by cases hj),h⟩
  | cons a l =>
    change (Bool.rec none x (chkB (a :: l) D H):Option α)=_ at h
    cases hb:chkB (a :: l) D H with
    | false=>rw [hb] at h;cases h
    | true=>rw [hb] at h;exact⟨chkB_ok hb,h⟩
abbrev KT:=List PL→Tr→AH→Option (Tr×AH)
noncomputable def sPur (i:XS) (ih:KT) (D:List PL) (t:Tr) (H:AH):Option (Tr×AH):=Option.rec none (fun v=>putK t i.dst v fun t'=>ih D t' H) (qpure i.x (mapE t i.xs))
noncomputable def sLoad (i:XS) (ih:KT) (D:List PL) (t:Tr) (H:AH):Option (Tr×AH):=
  match i.x with
  | .ld sz=>Option.rec none (fun v=>putK t i.dst v fun t'=>ih (Bool.rec D (⟨i.j,sz,mapE t i.xs,v⟩ :: D) i.keep) t' H) (qload sz H (mapE t i.xs))
  | _=>none
noncomputable def sNew (i:XS) (ih:KT) (D:List PL) (t:Tr) (H:AH):Option (Tr×AH):=
  match xnew i.x (mapE t i.xs) with
  | some (c,e,mk)=>chkK i.chk D (H++[.cells c e none false]) (putK t i.dst (mk (lenN H)) fun t'=>ih D t' (H++[.cells c e none false]))
  | none=>none
noncomputable def sAct (lo:Nat) (i:XS) (ih:KT) (D:List PL) (t:Tr) (H:AH):Option (Tr×AH):=
  Bool.rec none (match qact i.x H (mapE t i.xs) with
    | some (v,H')=>chkK i.chk D H' (putK t i.dst v fun t'=>ih D t' H')
    | none=>none) (okW lo (mapE t i.xs))
noncomputable def sCall (call:qf7) (i:XS) (ih:KT) (D:List PL) (t:Tr) (H:AH):Option (Tr×AH):=
  match mapE t i.xs with
  | .func (.func g) first cap :: args=>match call g (first.toList++args++cap.toList) H with
    | some (v,H')=>chkK i.chk D H' (putK t i.dst v fun t'=>ih D t' H')
    | none=>none
  | _=>none
noncomputable def guardQ (g:Option (Tmp×Bool)) (t:Tr) (a b:Option (Tr×AH)):Option (Tr×AH):=
  Option.rec a (fun p=>Prod.rec (fun d want=>Bool.rec b a (withB false (t.get d) fun x=>x == want)) p) g
noncomputable def sKind (k:XK):qf7→Nat→XS→KT→List PL→Tr→AH→Option (Tr×AH):=
  XK.rec (fun _ _=>sPur) (fun _ _=>sLoad) (fun _ _=>sNew) (fun _=>sAct) (fun call _=>sCall call) k
noncomputable def runS (call:qf7) (lo:Nat) (l:List XS):KT:=
  List.rec (fun _ t H=>some (t,H)) (fun i _ ih D t H=>guardQ i.g t (sKind i.x.kind call lo i ih D t H) (putK t i.dst undef fun t'=>ih D t' H)) l
def CallOk (P:Program) (call:qf7):Prop:=∀ g args H v H',call g args H=some (v,H')→FN P g args H (fun v1 H1=>v1=v∧H1=H')∧Keep H.length H H'
def CallOkL (P:Program) (lo:Nat) (call:qf7):Prop:=∀ g args H v H',lo≤H.length→call g args H=some (v,H')→FN P g args H (fun v1 H1=>v1=v∧H1=H')∧Keep lo H H'
theorem CallOk.toL {P:Program} {call:qf7} (h:CallOk P call) (lo:Nat):CallOkL P lo call:=fun g args H v H' hl hc =>
  have q:=h g args H v H' hc
  ⟨q.1,by have:=q.2.1;omega,fun b hb=>q.2.2 b (by omega)⟩
theorem recO {α β:Type} {o:Option α} {K:α→Option β} {r:β} (h:(Option.rec none K o:Option β)=some r):∃ a,o=some a∧K a=some r:=by
  cases o with
  | none=>cases h
  | some a=>exact⟨a,rfl,h⟩
theorem runS_ok {P:Program} {call:qf7} {lo:Nat} (hc:CallOkL P lo call) (l:List XS):∀ (D:List PL) (t:Tr) (H:AH) (t':Tr) (H':AH),lo≤H.length→runS call lo l D t H=some (t',H') →
    qbm P l D ⟨t.get,[]⟩ H (fun s1 H1=>s1=⟨t'.get,[]⟩∧H1=H')∧Keep lo H H':=by
  induction l with
  | nil =>
    intro D t H t' H' hl h
    cases h
    exact⟨⟨rfl,rfl⟩,Keep.refl hl⟩
  | cons i l ih =>
    intro D t H t' H' hl h
    change guardQ i.g t (sKind i.x.kind call lo i (runS call lo l) D t H) (putK t i.dst undef fun t'=>runS call lo l D t' H)=_ at h
    unfold qbm
    have hw : ∀ a b:Option (Tr×AH),guardQ i.g t a b=bif qc5 i.g ⟨t.get,[]⟩ then a else b:=by
      intro a b
      unfold qc5
      cases i.g with
      | none=>rfl
      | some g =>
        obtain⟨d,want⟩:=g
        change (Bool.rec b a (withB false (t.get d) fun x=>x == want):Option (Tr×AH))=_
        rw [recB]
        simp only
        rcases withB_eq (d:=false) (v:=t.get d) (K:=fun x=>x == want) with ⟨x,e1,e2⟩|e2
        · rw [e2,e1]
        · rw [e2]
          cases hv:t.get d with
          | bool x =>
            rw [hv] at e2
            change (x == want)=false at e2
            simp only [e2]
          | _=>rfl
    rw [hw] at h
    cases hwx:qc5 i.g ⟨t.get,[]⟩ with
    | false =>
      rw [hwx] at h
      simp only [cond_false] at h
      obtain⟨t1,ht,h⟩:=qk6 h
      obtain⟨q,k⟩:=ih D t1 H t' H' hl h
      simp only [Bool.false_eq_true,if_false]
      rw [ht]
      exact⟨q,k⟩
    | true =>
      rw [hwx] at h
      simp only [cond_true] at h
      simp only [if_true]
      rw [←mapE_eq]
      cases hkd:i.x.kind with
      | pur =>
        rw [hkd] at h
        obtain⟨v,hv,h⟩:=recO h
        obtain⟨t1,ht,h⟩:=qk6 h
        obtain⟨q,k⟩:=ih D t1 H t' H' hl h
        refine⟨⟨v,qpure_eq hv,?_⟩,k⟩
        rw [ht]
        exact q
      | load =>
        rw [hkd] at h
        change sLoad i (runS call lo l) D t H=_ at h
        unfold sLoad at h
        split at h
        · rename_i sz hx
          obtain⟨v,hv,h⟩:=recO h
          obtain⟨t1,ht,h⟩:=qk6 h
          obtain⟨q,k⟩:=ih _ t1 H t' H' hl h
          refine⟨⟨sz,v,hx,qload_eq hv,?_⟩,k⟩
          rw [ht]
          have e:(Bool.rec D (⟨i.j,sz,mapE t i.xs,v⟩ :: D) i.keep:List PL)=if i.keep=true then⟨i.j,sz,mapE t i.xs,v⟩ :: D else D:=by cases i.keep<;>rfl
          rw [←e]
          exact q
        · cases h
      | new =>
        rw [hkd] at h
        change sNew i (runS call lo l) D t H=_ at h
        unfold sNew at h
        split at h
        · rename_i c e mk hv
          obtain⟨hk,h⟩:=chkK_eq h
          obtain⟨t1,ht,h⟩:=qk6 h
          obtain⟨q,k⟩:=ih D t1 _ t' H' (by simp;omega) h
          refine⟨⟨c,e,mk,hv,hk,?_⟩,(Keep.app hl _).trans k⟩
          rw [←lenN_eq,ht]
          exact q
        · cases h
      | act =>
        rw [hkd] at h
        change sAct lo i (runS call lo l) D t H=_ at h
        unfold sAct at h
        cases hok:okW lo (mapE t i.xs) with
        | false=>rw [hok] at h;cases h
        | true =>
          rw [hok] at h
          simp only at h
          split at h
          · rename_i v H1 hv
            obtain⟨hk,h⟩:=chkK_eq h
            have hv:=qact_eq hv
            have kp:=xact_keep hl hok hv
            obtain⟨t1,ht,h⟩:=qk6 h
            obtain⟨q,k⟩:=ih D t1 _ t' H' kp.1 h
            refine⟨⟨v,H1,hv,hk,?_⟩,kp.trans k⟩
            rw [ht]
            exact q
          · cases h
      | call =>
        rw [hkd] at h
        change sCall call i (runS call lo l) D t H=_ at h
        unfold sCall at h
        split at h
        · rename_i g first cap args ha
          split at h
          · rename_i v H1 hv
            obtain⟨hk,h⟩:=chkK_eq h
            obtain⟨hF,kp⟩:=hc _ _ _ _ _ hl hv
            obtain⟨t1,ht,h⟩:=qk6 h
            obtain⟨q,k⟩:=ih D t1 _ t' H' kp.1 h
            refine⟨?_,kp.trans k⟩
            rw [ha]
            simp only [qjd]
            refine hF.mono ?_
            rintro _ _ ⟨rfl,rfl⟩
            refine⟨hk,?_⟩
            rw [ht]
            exact q
          · cases h
        · cases h
end Go.Sim
