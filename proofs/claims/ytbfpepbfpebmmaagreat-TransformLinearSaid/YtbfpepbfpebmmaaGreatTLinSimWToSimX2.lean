/- Part of the proof: SimW, SimQ2, SimY, SimZ, SimX, SimX2. -/
import Derived.Test.YtbfpepbfpebmmaaGreatTLinSimOToSimV
import Derived.KernelRfl
set_option linter.all false
namespace Go.Sim
open Go
abbrev RunT:=Tr→AH→Option (AX×Tr×AH)
noncomputable def seqI (r:Option (AX×Tr×AH)) (f:RunT):Option (AX×Tr×AH):=Option.rec none (fun p=>Prod.rec (fun x q=>AX.rec (Prod.rec f q) (fun i=>some (.exit i,q)) (some (.ret,q)) x) p) r
noncomputable def iterC (f:RunT) (n:Nat):RunT:=Nat.rec (fun _ _=>none) (fun _ ih t H=>seqI (f t H) ih) n
theorem iterC_zero (f:RunT) (t:Tr) (H:AH):iterC f 0 t H=none:=rfl
theorem iterC_succ (f:RunT) (n:Nat) (t:Tr) (H:AH):iterC f (n+1) t H=match f t H with
    | some (.normal,t',H')=>iterC f n t' H'
    | r=>r:=by
  change seqI (f t H) (iterC f n)=_
  rcases f t H with _|⟨x,t',H'⟩
  · rfl
  · cases x<;>rfl
noncomputable def seqR (r:Option (AX×Tr×AH)) (f:RunT):Option (AX×Tr×AH):=Option.rec none (fun p=>Prod.rec (fun x q=>AX.rec (Prod.rec f q) (fun i=>some (.exit i,q)) (some (.ret,q)) x) p) r
noncomputable def blockR (id:Nat) (r:Option (AX×Tr×AH)):Option (AX×Tr×AH):=Option.rec none (fun p=>Prod.rec (fun x q=>AX.rec (some (.normal,q)) (fun i=>Bool.rec (some (.exit i,q)) (some (.normal,q)) (Nat.beq i id)) (some (.ret,q)) x) p) r
noncomputable def condR (v:Value) (a b:Option (AX×Tr×AH)):Option (AX×Tr×AH):=withB none v fun x=>Bool.rec b a x
noncomputable def regR (r:Option (Tr×AH)):Option (AX×Tr×AH):=Option.rec none (fun q=>some (.normal,q)) r
noncomputable def runC (call:qf7) (lo L:Nat) (c:XC):RunT:=
  XC.rec (motive:=fun _=>RunT) (fun t H=>some (.normal,t,H)) (fun id t H=>some (.exit id,t,H)) (fun t H=>some (.ret,t,H))
    (fun _ _ fa fb t H=>seqR (fa t H) fb)
    (fun c _ _ fa fb t H=>condR (evT t c) (fa t H) (fb t H))
    (fun id _ fa t H=>blockR id (fa t H))
    (fun _ fa=>iterC fa L)
    (fun l t H=>regR (runS call lo l [] t H))
    (fun _ _ _ _ _ _ _ _=>none) c
theorem seqR_eq (r:Option (AX×Tr×AH)) (f:RunT):seqR r f=match r with
    | some (.normal,t',H')=>f t' H'
    | r=>r:=by
  rcases r with _|⟨x,t',H'⟩
  · rfl
  · cases x<;>rfl
theorem blockR_eq (id:Nat) (r:Option (AX×Tr×AH)):blockR id r=match r with
    | some (.exit i,t',H')=>bif Nat.beq i id then some (.normal,t',H') else some (.exit i,t',H')
    | r=>r:=by
  rcases r with _|⟨x,t',H'⟩
  · rfl
  · cases x with
    | exit i =>
      change (Bool.rec (some (.exit i,t',H')) (some (.normal,t',H')) (Nat.beq i id):Option (AX×Tr×AH))=_
      rw [recB]
    | _=>rfl
theorem runC_ok {P:Program} {call:qf7} {n lo L:Nat} (hc:CallOkL P lo call) (c:XC):∀ (t:Tr) (H:AH) (x:AX) (t':Tr) (H':AH),lo≤H.length→runC call lo L c t H=some (x,t',H') →
    X P n none c ⟨t.get,[]⟩ H (fun x1 s1 H1=>x1=x∧s1=⟨t'.get,[]⟩∧H1=H')∧Keep lo H H':=by
  induction c with
  | skip=>intro t H x t' H' hl h;cases h;exact⟨⟨rfl,rfl,rfl⟩,.refl hl⟩
  | exit id=>intro t H x t' H' hl h;cases h;exact⟨⟨rfl,rfl,rfl⟩,.refl hl⟩
  | ret=>intro t H x t' H' hl h;cases h;exact⟨⟨rfl,rfl,rfl⟩,.refl hl⟩
  | seq a b iha ihb =>
    intro t H x t' H' hl h
    change seqR (runC call lo L a t H) (runC call lo L b)=_ at h
    rw [seqR_eq] at h
    split at h
    · rename_i t1 H1 ha
      obtain⟨q1,k1⟩:=iha t H _ t1 H1 hl ha
      obtain⟨q2,k2⟩:=ihb t1 H1 x t' H' k1.1 h
      refine⟨X.mono a q1 ?_,k1.trans k2⟩
      rintro _ _ _ ⟨rfl,rfl,rfl⟩
      exact q2
    · rename_i hn
      obtain⟨q1,k1⟩:=iha t H x t' H' hl h
      refine⟨X.mono a q1 ?_,k1⟩
      rintro x2 _ _ ⟨rfl,rfl,rfl⟩
      cases x2 with
      | normal=>exact absurd h (hn _ _)
      | exit i=>exact⟨rfl,rfl,rfl⟩
      | ret=>exact⟨rfl,rfl,rfl⟩
  | cond c a b iha ihb =>
    intro t H x t' H' hl h
    change condR (evT t c) (runC call lo L a t H) (runC call lo L b t H)=_ at h
    unfold condR at h
    rcases withB_eq (d:=none) (v:=evT t c) (K:=fun x=>(Bool.rec (runC call lo L b t H) (runC call lo L a t H) x:Option (AX×Tr×AH))) with ⟨y,hy,e2⟩|e2
    · rw [evT_eq] at hy
      rw [e2] at h
      cases y with
      | true =>
        obtain⟨q,k⟩:=iha t H x t' H' hl h
        exact⟨⟨true,hy,by simpa using q⟩,k⟩
      | false =>
        obtain⟨q,k⟩:=ihb t H x t' H' hl h
        exact⟨⟨false,hy,by simpa using q⟩,k⟩
    · rw [e2] at h;cases h
  | block id a ih =>
    intro t H x t' H' hl h
    change blockR id (runC call lo L a t H)=_ at h
    rw [blockR_eq] at h
    split at h
    · rename_i i t1 H1 ha
      obtain⟨q1,k1⟩:=ih t H _ t1 H1 hl ha
      by_cases hi:i=id
      · subst hi
        simp only [Nat.beq_refl,cond_true] at h
        cases h
        refine⟨X.mono a q1 ?_,k1⟩
        rintro _ _ _ ⟨rfl,rfl,rfl⟩
        simp [AX.inBlock]
      · have:Nat.beq i id=false:=by rw [qdt];simp [hi]
        rw [this] at h
        cases h
        refine⟨X.mono a q1 ?_,k1⟩
        rintro _ _ _ ⟨rfl,rfl,rfl⟩
        simp [AX.inBlock,hi]
    · rename_i hn
      obtain⟨q1,k1⟩:=ih t H x t' H' hl h
      refine⟨X.mono a q1 ?_,k1⟩
      rintro x2 _ _ ⟨rfl,rfl,rfl⟩
      cases x2 with
      | normal=>exact⟨rfl,rfl,rfl⟩
      | exit i=>exact absurd h (hn _ _ _)
      | ret=>exact⟨rfl,rfl,rfl⟩
  | loop a ih =>
    intro t H x t' H' hl h
    change iterC (runC call lo L a) L t H=_ at h
    have key:∀ m t H,lo≤H.length→iterC (runC call lo L a) m t H=some (x,t',H')→Keep lo H H':=by
      intro m
      induction m with
      | zero=>intro t H _ h;rw [iterC_zero] at h;cases h
      | succ m ihm =>
        intro t H hl h
        rw [iterC_succ] at h
        split at h
        · rename_i t1 H1 ha
          obtain⟨q1,k1⟩:=ih t H _ t1 H1 hl ha
          exact k1.trans (ihm t1 H1 k1.1 h)
        · exact (ih t H x t' H' hl h).2
    refine⟨?_,key _ _ _ hl h⟩
    refine loop_ind (fun m s H=>∃ t,s=⟨t.get,[]⟩∧lo≤H.length∧iterC (runC call lo L a) m t H=some (x,t',H')) L ⟨t,rfl,hl,h⟩ ?_
    rintro m s H1 ⟨t1,rfl,hl1,h1⟩
    cases m with
    | zero=>rw [iterC_zero] at h1;cases h1
    | succ m =>
      rw [iterC_succ] at h1
      split at h1
      · rename_i t2 H2 ha
        obtain⟨q1,k1⟩:=ih t1 H1 _ t2 H2 hl1 ha
        refine X.mono a q1 ?_
        rintro _ _ _ ⟨rfl,rfl,rfl⟩
        exact⟨m,by omega,t2,rfl,k1.1,h1⟩
      · rename_i hn
        obtain⟨q1,k1⟩:=ih t1 H1 x t' H' hl1 h1
        refine X.mono a q1 ?_
        rintro x2 _ _ ⟨rfl,rfl,rfl⟩
        cases x2 with
        | normal=>exact absurd h1 (hn _ _)
        | exit i=>exact⟨rfl,rfl,rfl⟩
        | ret=>exact⟨rfl,rfl,rfl⟩
  | reg l =>
    intro t H x t' H' hl h
    change regR (runS call lo l [] t H)=_ at h
    obtain⟨⟨t1,H1⟩,hr,h⟩:=recO h
    · skip
      obtain⟨q,k⟩:=runS_ok hc l [] t H t1 H1 hl hr
      cases h
      exact⟨qch l _ _ _ _ _ (fun s H h=>⟨rfl,h.1,h.2⟩) q,k⟩
  | range f ps xa xb _ _=>intro t H x t' H' hl h;cases h
noncomputable def qmj:List Value→Nat→Tr→Tr
  | [],_,t=>t
  | v :: l,k,t=>qmj l (k+1) (forceV v fun v=>Tr.setF 4096 t k v)
theorem qrm:∀ (l:List Value) (k:Nat) (t:Tr) (x:Nat),k+l.length≤4096→(qmj l k t).get x=if k≤x∧x<k+l.length then l.getD (x-k) undef else t.get x
  | [],k,t,x,_=>by simp only [qmj,List.length_nil];rw [if_neg (by omega)]
  | v :: l,k,t,x,h=>by
    simp only [qmj,forceV_eq]
    simp only [List.length_cons] at h ⊢
    rw [qrm l (k+1) _ x (by omega),Tr.get_set _ _ _ _ _ (by omega)]
    by_cases h1:x=k
    · subst h1
      rw [if_neg (by omega),if_pos rfl,if_pos (by omega)]
      simp
    · by_cases h2:k+1≤x∧x<k+1+l.length
      · rw [if_pos h2,if_pos (by omega),show x-k=(x-(k+1))+1 by omega,List.getD_cons_succ]
      · rw [if_neg h2,if_neg h1,if_neg (by omega)]
def resR (xf:XF) (H:AH) (r:Option (AX×Tr×AH)) (get:Tr→Nat→Value):Option (Value×AH):=match r with
  | some (.exit _,_,_)=>none
  | some (_,t',H')=>match qf8 H' ⟨get t',[]⟩ xf.res with
    | some v=>bif ground v then some (v,H) else some (v,H')
    | none=>none
  | none=>none
def resM (xf:XF) (r:Option (AX×Tr×AH)) (get:Tr→Nat→Value):Option (Value×AH):=match r with
  | some (.exit _,_,_)=>none
  | some (_,t',H')=>match qf8 H' ⟨get t',[]⟩ xf.res with
    | some v=>some (v,H')
    | none=>none
  | none=>none
noncomputable def callF (T:FuncId→Option XF) (O:qf7) (L d:Nat):qf7:=
  Nat.rec (fun _ _ _=>none) (fun _ ih g args H=>match O g args H with
    | some r=>some r
    | none=>match T g with
      | some xf=>bif Nat.ble args.length xf.n && Nat.ble args.length 4096 then resR xf H (runC ih H.length L xf.body (qmj args 0 .nil) H) Tr.get else none
      | none=>none) d
theorem Keep.split {H H':AH} (h:Keep H.length H H'):∃ J,H'=H++J:=by
  refine⟨H'.drop H.length,?_⟩
  refine List.ext_getElem? fun b=>?_
  by_cases hb:b<H.length
  · rw [List.getElem?_append_left hb];exact h.2 b hb
  · rw [List.getElem?_append_right (by omega),List.getElem?_drop]
    congr 1;omega
theorem callF_ok {P:Program} (hm:P.follows .mixedOrders=true) {T:FuncId→Option XF} {O:qf7} (hT:∀ g xf,T g=some xf→qb3 P g=some xf)
    (hO:CallOk P O) (L:Nat):∀ d,CallOk P (callF T O L d)
  | 0=>by intro g args H v H' h;cases h
  | d + 1 => by
    intro g args H v H' h
    change (match O g args H with
      | some r=>some r
      | none=>match T g with
        | some xf=>bif Nat.ble args.length xf.n && Nat.ble args.length 4096 then resR xf H (runC (callF T O L d) H.length L xf.body (qmj args 0 .nil) H) Tr.get else none
        | none=>none)=some (v,H') at h
    split at h
    · rename_i u hu
      cases h
      exact hO g args _ _ _ hu
    · split at h
      · rename_i xf hxf
        cases hb:(Nat.ble args.length xf.n && Nat.ble args.length 4096) with
        | false=>rw [hb] at h;cases h
        | true =>
          rw [hb] at h
          simp only [Bool.and_eq_true] at hb
          have b1:args.length≤xf.n:=Nat.le_of_ble_eq_true hb.1
          have b2:args.length≤4096:=Nat.le_of_ble_eq_true hb.2
          have henv:(⟨env0 args,[]⟩:St)=⟨(qmj args 0 .nil).get,[]⟩:=by
            congr 1
            funext x
            rw [qrm _ _ _ _ (by omega)]
            simp only [env0,Nat.zero_le,Nat.zero_add,true_and,Nat.sub_zero]
            split
            · rfl
            · rename_i hx
              rw [List.getD_eq_getElem?_getD,List.getElem?_eq_none (by omega)]
              rfl
          simp only [cond_true] at h
          unfold resR at h
          split at h
          · cases h
          · rename_i x t' H1 hne hr
            split at h
            · rename_i u hu
              obtain⟨q,k⟩:=runC_ok ((callF_ok hm hT hO L d).toL _) (n:=xf.n) xf.body _ H _ t' H1 (Nat.le_refl _) hr
              have hF:∀ R:Value→AH→Prop,R u H1→FN P g args H R:=by
                intro R hR
                refine FN.of_comp hm (hT g xf hxf) b1 ?_
                rw [henv]
                refine X.mono xf.body q ?_
                rintro x2 _ _ ⟨rfl,rfl,rfl⟩
                cases x2 with
                | exit i=>exact (hne _ rfl).elim
                | normal=>exact⟨_,_,rfl,hu,hR⟩
                | ret=>exact⟨_,_,rfl,hu,hR⟩
              cases hg:ground u with
              | true =>
                rw [hg] at h
                cases h
                refine⟨FN.gc0 (R:=fun v1=>v1=_) (hF _ ⟨rfl,hg,k.split⟩),Keep.refl (Nat.le_refl _)⟩
              | false =>
                rw [hg] at h
                cases h
                exact⟨hF _ ⟨rfl,rfl⟩,k⟩
            · cases h
          · cases h
      · cases h
noncomputable def callM (T:FuncId→Option XF) (O:qf7) (wr:FuncId→Bool) (L d:Nat):Nat→qf7:=
  Nat.rec (fun _ _ _ _=>none) (fun _ ih lo g args H=>match O g args H with
    | some r=>some r
    | none=>match T g with
      | some xf=>bif Nat.ble args.length xf.n && Nat.ble args.length 4096 then
          (bif wr g then resM xf (runC (ih lo) lo L xf.body (qmj args 0 .nil) H) Tr.get else resR xf H (runC (ih H.length) H.length L xf.body (qmj args 0 .nil) H) Tr.get) else none
      | none=>none) d
theorem callM_ok {P:Program} (hm:P.follows .mixedOrders=true) {T:FuncId→Option XF} {O:qf7} {wr:FuncId→Bool} (hT:∀ g xf,T g=some xf→qb3 P g=some xf)
    (hO:CallOk P O) (L:Nat):∀ d lo,CallOkL P lo (callM T O wr L d lo)
  | 0,_=>by intro g args H v H' hl h;cases h
  | d + 1, lo => by
    intro g args H v H' hl h
    change (match O g args H with
      | some r=>some r
      | none=>match T g with
        | some xf=>bif Nat.ble args.length xf.n && Nat.ble args.length 4096 then
          (bif wr g then resM xf (runC (callM T O wr L d lo) lo L xf.body (qmj args 0 .nil) H) Tr.get else resR xf H (runC (callM T O wr L d H.length) H.length L xf.body (qmj args 0 .nil) H) Tr.get) else none
        | none=>none)=some (v,H') at h
    split at h
    · rename_i u hu
      cases h
      exact hO.toL lo g args _ _ _ hl hu
    · split at h
      · rename_i xf hxf
        cases hb:(Nat.ble args.length xf.n && Nat.ble args.length 4096) with
        | false=>rw [hb] at h;cases h
        | true =>
          rw [hb] at h
          simp only [Bool.and_eq_true] at hb
          have b1:args.length≤xf.n:=Nat.le_of_ble_eq_true hb.1
          have b2:args.length≤4096:=Nat.le_of_ble_eq_true hb.2
          have henv:(⟨env0 args,[]⟩:St)=⟨(qmj args 0 .nil).get,[]⟩:=by
            congr 1
            funext x
            rw [qrm _ _ _ _ (by omega)]
            simp only [env0,Nat.zero_le,Nat.zero_add,true_and,Nat.sub_zero]
            split
            · rfl
            · rename_i hx
              rw [List.getD_eq_getElem?_getD,List.getElem?_eq_none (by omega)]
              rfl
          have hend:∀ {x:AX} {t':Tr} {H1:AH} {u:Value},(∀ i,x≠.exit i)→X P xf.n none xf.body ⟨(qmj args 0 .nil).get,[]⟩ H (fun x1 s1 H2=>x1=x∧s1=⟨t'.get,[]⟩∧H2=H1)→qf8 H1 ⟨t'.get,[]⟩ xf.res=some u→∀ R:Value→AH→Prop,R u H1→FN P g args H R:=by
            intro x t' H1 u hne q hu R hR
            refine FN.of_comp hm (hT g xf hxf) b1 ?_
            rw [henv]
            refine X.mono xf.body q ?_
            rintro x2 _ _ ⟨rfl,rfl,rfl⟩
            cases x2 with
            | exit i=>exact (hne _ rfl).elim
            | normal=>exact⟨_,_,rfl,hu,hR⟩
            | ret=>exact⟨_,_,rfl,hu,hR⟩
          simp only [cond_true] at h
          cases hmut:wr g with
          | true =>
            rw [hmut] at h
            simp only [cond_true] at h
            unfold resM at h
            split at h
            · cases h
            · rename_i x t' H1 hne hr
              split at h
              · rename_i u hu
                obtain⟨q,k⟩:=runC_ok (callM_ok hm hT hO L d lo) (n:=xf.n) xf.body _ H _ t' H1 hl hr
                cases h
                exact⟨hend (fun i hi=>hne i hi) q hu _ ⟨rfl,rfl⟩,k⟩
              · cases h
            · cases h
          | false =>
            rw [hmut] at h
            simp only [cond_false] at h
            unfold resR at h
            split at h
            · cases h
            · rename_i x t' H1 hne hr
              split at h
              · rename_i u hu
                obtain⟨q,k⟩:=runC_ok (callM_ok hm hT hO L d H.length) (n:=xf.n) xf.body _ H _ t' H1 (Nat.le_refl _) hr
                have kk:Keep lo H H1:=⟨by have:=k.1;omega,fun b hb=>k.2 b (by omega)⟩
                cases hg:ground u with
                | true =>
                  rw [hg] at h
                  cases h
                  exact⟨FN.gc0 (R:=fun v1=>v1=_) (hend (fun i hi=>hne i hi) q hu _ ⟨rfl,hg,k.split⟩),Keep.refl hl⟩
                | false =>
                  rw [hg] at h
                  cases h
                  exact⟨hend (fun i hi=>hne i hi) q hu _ ⟨rfl,rfl⟩,kk⟩
              · cases h
            · cases h
      · cases h
theorem noO {P:Program}:CallOk P (fun _ _ _=>none):=by intro g args H v H' h;cases h
theorem VRs.ground {i:Inj}:∀ {l:List Value},l.all ground=true→VRs i l l
  | [],_=>.nil
  | v :: l,h=>by
    simp only [List.all_cons,Bool.and_eq_true] at h
    exact .cons (VR.of_ground h.1 i) (VRs.ground h.2)
theorem FSim.frame {P:Program} {f:FuncId} {args:List Value} {v v2:Value} {J J2:AH} (hg:args.all ground=true) (h:FSim P f args [] v J) (H:AH)
    (hv:VR (hat fun b=>if H.length≤b then some (b-H.length) else none) v2 v) (hlen:J2.length=J.length)
    (hJ:∀ (k:Nat) x,J[k]? = some x→∃ x2,J2[k]? = some x2∧AR (fun b=>if H.length≤b then some (b-H.length) else none) x2 x):FSim P f args H v2 (H++J2):=by
  intro i w args' hr ha cs
  have hrel:Rel (fun _=>none) [] w:=⟨(fun b=>by simp),(fun b L x h=>by cases h),(fun _ _ _ _ _ _ h=>by cases h)⟩
  have hga:VRs (fun _=>none) args args':=by
    clear h
    induction ha with
    | nil=>exact .nil
    | cons x _ ih =>
      simp only [List.all_cons,Bool.and_eq_true] at hg
      refine .cons ?_ (ih hg.2)
      have h1:=VR.of_ground hg.1 (fun _=>none)
      have h2:=(h1.old (σ:=fun _=>none) (fun b L h=>by cases h)).cmp x
      exact h2.mono (fun b L e=>by simp [cmp] at e)
  obtain⟨i',w',v',fr,e,g,q1,q2,q3,q4⟩:=h _ w args' hrel hga cs
  generalize hσ:(fun b=>if H.length≤b then some (b-H.length) else none:Nat→Option Nat)=σ at hv hJ
  have hs:∀ b,H.length≤b→σ b=some (b-H.length):=fun b hb=>by rw [←hσ];simp [hb]
  have hs0:∀ b,b<H.length→σ b=none:=fun b hb=>by rw [←hσ];simp [Nat.not_le.2 hb]
  let i2:Inj:=fun b=>if b<H.length then i b else cmp σ i' b
  have hle:(cmp σ i').le i2:=by
    intro b L hb
    have:¬b<H.length:=fun hlt=>by simp [cmp,hs0 b hlt] at hb
    simp only [i2,if_neg this]
    exact hb
  have hle2:i.le i2:=by
    intro b L hb
    have:=hr.dom b L hb
    simp only [i2,if_pos this]
    exact hb
  have hold:∀ c,c<w.heap.size→w'.heap[c]? = w.heap[c]?:=fun c hc=>e.frame c hc (fun b L x h=>by cases h)
  have hnew:∀ b L,¬b<H.length→i2 b=some L→∃ k,b=H.length+k∧i' k=some L:=by
    intro b L hb h
    simp only [i2,if_neg hb] at h
    simp only [cmp,hs b (by omega),Option.bind_some] at h
    exact⟨b-H.length,by omega,h⟩
  have hk:∀ k L,i' k=some L→∃ x x2,J[k]? = some x∧J2[k]? = some x2∧AR σ x2 x∧w.heap.size≤L.blk:=by
    intro k L hk
    have hlt:=g.dom k L hk
    obtain⟨x2,p1,p2⟩:=hJ k _ (List.getElem?_eq_getElem hlt)
    refine⟨_,x2,List.getElem?_eq_getElem hlt,p1,p2,?_⟩
    rcases e.fresh k L hk with h|⟨_,h|⟨b0,L0,x0,h,_⟩⟩
    · cases h
    · exact h
    · cases h
  refine⟨i2,w',v',fr,⟨hr.dom,hle2,e.os,e.tape,e.output,e.size,by simp,fun b x' hb hx ho=>?_,fun c hc _=>hold c hc,fun b hb _=>List.getElem?_append_left hb,fun b L hb=>?_⟩,⟨fun b L hb=>?_,fun b L x hb hx=>?_,fun b1 b2 L1 L2 x1 x2 f1 f2 g1 g2 o1 l2 hL=>?_⟩,(hv.cmp q1).mono hle,q2,q3,q4⟩
  · rw [List.getElem?_append_left hb] at hx
    exact⟨x',hx,ho⟩
  · by_cases hbl:b<H.length
    · simp only [i2,if_pos hbl] at hb;exact .inl hb
    · obtain⟨k,rfl,hk'⟩:=hnew b L hbl hb
      obtain⟨_,_,_,_,_,hsz⟩:=hk k L hk'
      exact .inr ⟨by omega,.inl hsz⟩
  · by_cases hbl:b<H.length
    · simp;omega
    · obtain⟨k,rfl,hk'⟩:=hnew b L hbl hb
      have:=g.dom k L hk'
      simp;omega
  · by_cases hbl:b<H.length
    · simp only [i2,if_pos hbl] at hb
      rw [List.getElem?_append_left hbl] at hx
      have hB:=hr.blk b L x hb hx
      by_cases hl:x.live=true
      · exact (hB.heap (hold _ (hB.lt hl))).mono hle2
      · cases x<;>simp [AB.live] at hl
        trivial
    · obtain⟨k,rfl,hk'⟩:=hnew b L hbl hb
      rw [get_new] at hx
      obtain⟨y,y2,p1,p2,p3,_⟩:=hk k L hk'
      rw [hx] at p2;cases p2
      exact (p3.blk (g.blk k L y hk' p1)).mono hle
  · by_cases hb1:b1<H.length<;>by_cases hb2:b2<H.length
    · simp only [i2,if_pos hb1] at f1
      simp only [i2,if_pos hb2] at f2
      rw [List.getElem?_append_left hb1] at g1
      rw [List.getElem?_append_left hb2] at g2
      exact hr.inj b1 b2 L1 L2 x1 x2 f1 f2 g1 g2 o1 l2 hL
    · simp only [i2,if_pos hb1] at f1
      rw [List.getElem?_append_left hb1] at g1
      have hB:=hr.blk b1 L1 x1 f1 g1
      have:=hB.lt (AB.owned_live o1)
      obtain⟨k,rfl,hk'⟩:=hnew b2 L2 hb2 f2
      obtain⟨_,_,_,_,_,hsz⟩:=hk k L2 hk'
      omega
    · simp only [i2,if_pos hb2] at f2
      rw [List.getElem?_append_left hb2] at g2
      have hB:=hr.blk b2 L2 x2 f2 g2
      have:=hB.lt l2
      obtain⟨k,rfl,hk'⟩:=hnew b1 L1 hb1 f1
      obtain⟨_,_,_,_,_,hsz⟩:=hk k L1 hk'
      omega
    · obtain⟨k,rfl,hk'⟩:=hnew b1 L1 hb1 f1
      obtain⟨m,rfl,hm'⟩:=hnew b2 L2 hb2 f2
      rw [get_new] at g1 g2
      obtain⟨y1,z1,p1,p2,p3,_⟩:=hk k L1 hk'
      obtain⟨y2,z2,r1,r2,r3,_⟩:=hk m L2 hm'
      rw [g1] at p2;cases p2
      rw [g2] at r2;cases r2
      have:=g.inj k m L1 L2 y1 y2 hk' hm' p1 r1 (p3.owned ▸ o1) (r3.live ▸ l2) hL
      omega
end Go.Sim

namespace Go.Sim
open Go
class Kb (α:Type) where
  f:α
def qbb (o:Option Value) [k:Kb (Value→Prop)]:Prop:=∃ v,o=some v∧k.f v
def qbt (o:Option (Value×AH)) [k:Kb (Value→AH→Prop)]:Prop:=∃ v H,o=some (v,H)∧k.f v H
def bindN (o:Option (List Value×TypeId×(Nat→Value))) [k:Kb (List Value→TypeId→(Nat→Value)→Prop)]:Prop:=∃ c e mk,o=some (c,e,mk)∧k.f c e mk
def bindU (o:Option AH) [k:Kb (AH→Prop)]:Prop:=∃ H,o=some H∧k.f H
def qb5 (o:Option (List Value)) [k:Kb (List Value→Prop)]:Prop:=∃ H,o=some H∧k.f H
def letV (v:Value) [k:Kb (Value→Prop)]:Prop:=k.f v
def letH (H:AH) [k:Kb (AH→Prop)]:Prop:=k.f H
def qbq (v:Value) [k:Kb (Bool→Prop)]:Prop:=∃ t,v=.bool t∧k.f t
def guardK (b:Bool) [k:Kb (Bool→Prop)]:Prop:=k.f b
def qb1 (v x y:Value) [k:Kb (Value→Prop)]:Prop:=∃ t,v=.bool t∧k.f (if t then x else y)
def XZ (P:Program) (n:Nat) (ro:Option Nat) (c:XC) [s:Kb St] [H:Kb AH] [Q:Kb (AX→St→AH→Prop)]:Prop:=X P n ro c s.f H.f Q.f
def SZ (P:Program) (l:List XS) [D:Kb (List PL)] [s:Kb St] [H:Kb AH] [K:Kb (St→AH→Prop)]:Prop:=qbm P l D.f s.f H.f K.f
def qjc (P:Program) (vs:List Value) (H:AH) [R:Kb (Value→AH→Prop)]:Prop:=qjd P vs H R.f
def FZ (P:Program) (g:FuncId) (args:List Value) (H:AH) [R:Kb (Value→AH→Prop)]:Prop:=FN P g args H R.f
def YZ (P:Program) (g:Nat) (args:List Value) (H:AH) [R:Kb (Value→AH→Prop)]:Prop:=YN P g args H R.f
def LZ (P:Program) (n:Nat) (ro:Option Nat) (c:XC) [s:Kb St] [H:Kb AH] [Q:Kb (AX→St→AH→Prop)]:Prop:=loopX (X P n ro c) s.f H.f Q.f
def EZ (Q:AX→St→AH→Prop) (x:AX) (s:St) (H:AH):Prop:=Q x s H
theorem bindO_some {v:Value} {k:Value→Prop}:@qbb (some v) ⟨k⟩=k v:=by simp [qbb]
theorem bindP_some {v:Value} {H:AH} {k:Value→AH→Prop}:@qbt (some (v,H)) ⟨k⟩=k v H:=ex_pair
theorem bindN_some {c:List Value} {e:TypeId} {mk:Nat→Value} {k:List Value→TypeId→(Nat→Value)→Prop}:@bindN (some (c,e,mk)) ⟨k⟩=k c e mk:=ex_trip
theorem bindU_some {H:AH} {k:AH→Prop}:@bindU (some H) ⟨k⟩=k H:=by simp [bindU]
theorem bindL_some {H:List Value} {k:List Value→Prop}:@qb5 (some H) ⟨k⟩=k H:=by simp [qb5]
theorem letV_eq {v:Value} {k:Value→Prop}:@letV v ⟨k⟩=k v:=_root_.id rfl
theorem letH_eq {H:AH} {k:AH→Prop}:@letH H ⟨k⟩=k H:=_root_.id rfl
theorem condK_bool {b:Bool} {k:Bool→Prop}:@qbq (.bool b) ⟨k⟩=@guardK b ⟨k⟩:=by simp [qbq,guardK]
theorem qrq {k:Bool→Prop}:@guardK true ⟨k⟩=k true:=_root_.id rfl
theorem qnj {k:Bool→Prop}:@guardK false ⟨k⟩=k false:=_root_.id rfl
theorem pickK_true {x y:Value} {k:Value→Prop}:@qb1 (.bool true) x y ⟨k⟩=k x:=by simp [qb1]
theorem qqs {x y:Value} {k:Value→Prop}:@qb1 (.bool false) x y ⟨k⟩=k y:=by simp [qb1]
section
variable {P:Program} {n:Nat} {ro:Option Nat} {s:St} {H:AH} {Q:AX→St→AH→Prop} {K:St→AH→Prop} {l:List XS} {D:List PL} {g:Option (Tmp×Bool)} {xs:List Operand} {d:Option Tmp} {j:Nat} {kp:Bool} {chk:List Nat} {a b c:Operand} {x:XO}
theorem X0_skip:@XZ P n ro (.skip) ⟨s⟩ ⟨H⟩ ⟨Q⟩=EZ Q .normal s H:=_root_.id rfl
theorem X0_exit {id:Nat}:@XZ P n ro (.exit id) ⟨s⟩ ⟨H⟩ ⟨Q⟩=EZ Q (.exit id) s H:=_root_.id rfl
theorem X0_ret:@XZ P n ro (.ret) ⟨s⟩ ⟨H⟩ ⟨Q⟩=EZ Q .ret s H:=_root_.id rfl
theorem X0_seq {a b:XC}:@XZ P n ro (.seq a b) ⟨s⟩ ⟨H⟩ ⟨Q⟩=@XZ P n ro a ⟨s⟩ ⟨H⟩ ⟨AX.then (fun s H=>@XZ P n ro b ⟨s⟩ ⟨H⟩ ⟨Q⟩) Q⟩:=_root_.id rfl
theorem X0_cond {c:Operand} {a b:XC}:@XZ P n ro (.cond c a b) ⟨s⟩ ⟨H⟩ ⟨Q⟩=@qbq (ev s c) ⟨fun t=>if t=true then @XZ P n ro a ⟨s⟩ ⟨H⟩ ⟨Q⟩ else @XZ P n ro b ⟨s⟩ ⟨H⟩ ⟨Q⟩⟩:=_root_.id rfl
theorem X0_block {id:Nat} {a:XC}:@XZ P n ro (.block id a) ⟨s⟩ ⟨H⟩ ⟨Q⟩=@XZ P n ro a ⟨s⟩ ⟨H⟩ ⟨AX.inBlock id Q⟩:=_root_.id rfl
theorem X0_loop {a:XC}:@XZ P n ro (.loop a) ⟨s⟩ ⟨H⟩ ⟨Q⟩=@LZ P n ro a ⟨s⟩ ⟨H⟩ ⟨Q⟩:=_root_.id rfl
theorem X0_reg {l:List XS}:@XZ P n ro (.reg l) ⟨s⟩ ⟨H⟩ ⟨Q⟩=@SZ P l ⟨[]⟩ ⟨s⟩ ⟨H⟩ ⟨Q .normal⟩:=_root_.id rfl
theorem qk0 {Q:AX→St→AH→Prop}:EZ (AX.then K Q) .normal s H=K s H:=_root_.id rfl
theorem qr4 {Q:AX→St→AH→Prop} {id:Nat}:EZ (AX.then K Q) (.exit id) s H=EZ Q (.exit id) s H:=_root_.id rfl
theorem E_then_ret {Q:AX→St→AH→Prop}:EZ (AX.then K Q) .ret s H=EZ Q .ret s H:=_root_.id rfl
theorem qg7 {id:Nat}:EZ (AX.inBlock id Q) .normal s H=EZ Q .normal s H:=_root_.id rfl
theorem qjk {id i:Nat}:EZ (AX.inBlock id Q) (.exit i) s H=if i=id then EZ Q .normal s H else EZ Q (.exit i) s H:=_root_.id rfl
theorem qk1 {id:Nat}:EZ (AX.inBlock id Q) .ret s H=EZ Q .ret s H:=_root_.id rfl
theorem E_normal {res:List XRes} {R:Value→AH→Prop}:EZ (bodyX res R) .normal s H=@bindU (unwA s.ds H) ⟨fun H'=>@qbb (qf8 H' s res) ⟨fun v=>R v H'⟩⟩:=bodyX_normal
theorem E_ret {res:List XRes} {R:Value→AH→Prop}:EZ (bodyX res R) .ret s H=@bindU (unwA s.ds H) ⟨fun H'=>@qbb (qf8 H' s res) ⟨fun v=>R v H'⟩⟩:=bodyX_ret
theorem S0_nil {Q:AX→St→AH→Prop}:@SZ P [] ⟨D⟩ ⟨s⟩ ⟨H⟩ ⟨Q .normal⟩=EZ Q .normal s H:=_root_.id rfl
theorem S0_guardT {t:Tmp}:@SZ P (⟨some (t,true),x,xs,d,j,kp,chk⟩ :: l) ⟨D⟩ ⟨s⟩ ⟨H⟩ ⟨K⟩=@guardK (asB (s.env t)) ⟨fun q=>if q=true then @SZ P (⟨none,x,xs,d,j,kp,chk⟩ :: l) ⟨D⟩ ⟨s⟩ ⟨H⟩ ⟨K⟩ else @SZ P l ⟨D⟩ ⟨s.put d undef⟩ ⟨H⟩ ⟨K⟩⟩:=by
  refine (qmw (P:=P) (t:=t) (w:=true)).trans ?_
  rw [wantX_true];rfl
theorem S0_guardF {t:Tmp}:@SZ P (⟨some (t,false),x,xs,d,j,kp,chk⟩ :: l) ⟨D⟩ ⟨s⟩ ⟨H⟩ ⟨K⟩=@guardK (asNB (s.env t)) ⟨fun q=>if q=true then @SZ P (⟨none,x,xs,d,j,kp,chk⟩ :: l) ⟨D⟩ ⟨s⟩ ⟨H⟩ ⟨K⟩ else @SZ P l ⟨D⟩ ⟨s.put d undef⟩ ⟨H⟩ ⟨K⟩⟩:=by
  refine (qmw (P:=P) (t:=t) (w:=false)).trans ?_
  rw [qp6];rfl
theorem S0_mov:@SZ P (⟨none,.mov,[a],d,j,kp,chk⟩ :: l) ⟨D⟩ ⟨s⟩ ⟨H⟩ ⟨K⟩=@letV (ev s a) ⟨fun v=>@SZ P l ⟨D⟩ ⟨s.put d v⟩ ⟨H⟩ ⟨K⟩⟩:=_root_.id steps_mov
theorem S0_pick:@SZ P (⟨none,.pick,[c,a,b],d,j,kp,chk⟩ :: l) ⟨D⟩ ⟨s⟩ ⟨H⟩ ⟨K⟩=@qb1 (ev s c) (ev s a) (ev s b) ⟨fun v=>@SZ P l ⟨D⟩ ⟨s.put d v⟩ ⟨H⟩ ⟨K⟩⟩:=steps_pick
theorem S0_lenA {n:Nat}:@SZ P (⟨none,.lenA n,[a],d,j,kp,chk⟩ :: l) ⟨D⟩ ⟨s⟩ ⟨H⟩ ⟨K⟩=@SZ P l ⟨D⟩ ⟨s.put d (nv n)⟩ ⟨H⟩ ⟨K⟩:=steps_lenA
theorem S0_bld {init:List Value} {pl:List (Nat×Nat)}:@SZ P (⟨none,.bld init pl,xs,d,j,kp,chk⟩ :: l) ⟨D⟩ ⟨s⟩ ⟨H⟩ ⟨K⟩=@qb5 (qbv init pl (xs.map (ev s))) ⟨fun v=>@SZ P l ⟨D⟩ ⟨s.put d (.agg v.toArray)⟩ ⟨H⟩ ⟨K⟩⟩:=steps_bld
theorem S0_ldF {sz:Option Nat}:@SZ P (⟨none,.ld sz,[a],d,j,false,chk⟩ :: l) ⟨D⟩ ⟨s⟩ ⟨H⟩ ⟨K⟩=@qbb (qbh sz H [ev s a]) ⟨fun v=>@SZ P l ⟨D⟩ ⟨s.put d v⟩ ⟨H⟩ ⟨K⟩⟩:=by
  unfold SZ;rw [steps_ld];rfl
theorem S0_ldT {sz:Option Nat}:@SZ P (⟨none,.ld sz,[a],d,j,true,chk⟩ :: l) ⟨D⟩ ⟨s⟩ ⟨H⟩ ⟨K⟩=@qbb (qbh sz H [ev s a]) ⟨fun v=>@SZ P l ⟨⟨j,sz,[ev s a],v⟩ :: D⟩ ⟨s.put d v⟩ ⟨H⟩ ⟨K⟩⟩:=by
  unfold SZ;rw [steps_ld];rfl
theorem S0_new {c:List Value} {e:TypeId}:@SZ P (⟨none,.new c e,[],d,j,kp,[]⟩ :: l) ⟨D⟩ ⟨s⟩ ⟨H⟩ ⟨K⟩=@letV (.pointer (some ⟨H.length,0,none⟩)) ⟨fun v=>@letH (H++[.cells c e none false]) ⟨fun H'=>@SZ P l ⟨D⟩ ⟨s.put d v⟩ ⟨H'⟩ ⟨K⟩⟩⟩:=by
  unfold SZ;rw [steps_new,qd9];simp [letH,letV]
theorem S0_box {e:TypeId}:@SZ P (⟨none,.box e,[a],d,j,kp,[]⟩ :: l) ⟨D⟩ ⟨s⟩ ⟨H⟩ ⟨K⟩=@letV (.pointer (some ⟨H.length,0,none⟩)) ⟨fun v=>@letH (H++[.cells (qbn (ev s a)) e none false]) ⟨fun H'=>@SZ P l ⟨D⟩ ⟨s.put d v⟩ ⟨H'⟩ ⟨K⟩⟩⟩:=by
  unfold SZ;rw [steps_box,qd9];simp [letH,letV]
theorem S0_make {z:Value} {sz bytes:Nat} {e:TypeId}:@SZ P (⟨none,.make z sz bytes e,[a,b],d,j,kp,[]⟩ :: l) ⟨D⟩ ⟨s⟩ ⟨H⟩ ⟨K⟩=@bindN (xnew (.make z sz bytes e) [ev s a,ev s b]) ⟨fun c e' mk=>@letV (mk H.length) ⟨fun v=>@letH (H++[.cells c e' none false]) ⟨fun H'=>@SZ P l ⟨D⟩ ⟨s.put d v⟩ ⟨H'⟩ ⟨K⟩⟩⟩⟩:=by
  unfold SZ;rw [steps_make];simp only [qd9,true_and];rfl
theorem S0_bsl {init:List Value} {len:Nat} {pl:List (Nat×Nat)} {e:TypeId}:@SZ P (⟨none,.bsl init len pl e,xs,d,j,kp,[]⟩ :: l) ⟨D⟩ ⟨s⟩ ⟨H⟩ ⟨K⟩=@qb5 (qbv init pl (xs.map (ev s))) ⟨fun c=>@letV (.slice (some ⟨H.length,0,none⟩) len len) ⟨fun v=>@letH (H++[.cells c e none false]) ⟨fun H'=>@SZ P l ⟨D⟩ ⟨s.put d v⟩ ⟨H'⟩ ⟨K⟩⟩⟩⟩:=by
  unfold SZ;rw [steps_bsl];simp only [qd9,true_and];rfl
theorem S0_st {sz:Nat}:@SZ P (⟨none,.st sz,[a,b],d,j,kp,[]⟩ :: l) ⟨D⟩ ⟨s⟩ ⟨H⟩ ⟨K⟩=@qbt (xact (.st sz) H [ev s a,ev s b]) ⟨fun v H'=>@SZ P l ⟨D⟩ ⟨s.put d v⟩ ⟨H'⟩ ⟨K⟩⟩:=by
  unfold SZ;rw [steps_st];simp only [qd9,true_and];rfl
theorem S0_app {e:TypeId} {sz bytes:Nat}:@SZ P (⟨none,.app e sz bytes,[a,b],d,j,kp,[]⟩ :: l) ⟨D⟩ ⟨s⟩ ⟨H⟩ ⟨K⟩=@qbt (xact (.app e sz bytes) H [ev s a,ev s b]) ⟨fun v H'=>@SZ P l ⟨D⟩ ⟨s.put d v⟩ ⟨H'⟩ ⟨K⟩⟩:=by
  unfold SZ;rw [steps_app];simp only [qd9,true_and];rfl
theorem S0_appC {e:TypeId} {sz bytes c:Nat} {cs:List Nat}:@SZ P (⟨none,.app e sz bytes,[a,b],d,j,kp,c :: cs⟩ :: l) ⟨D⟩ ⟨s⟩ ⟨H⟩ ⟨K⟩=@qbt (xact (.app e sz bytes) H [ev s a,ev s b]) ⟨fun v H'=>chkX (c :: cs) D H'∧@SZ P l ⟨D⟩ ⟨s.put d v⟩ ⟨H'⟩ ⟨K⟩⟩:=steps_app
theorem S0_stC {sz c:Nat} {cs:List Nat}:@SZ P (⟨none,.st sz,[a,b],d,j,kp,c :: cs⟩ :: l) ⟨D⟩ ⟨s⟩ ⟨H⟩ ⟨K⟩=@qbt (xact (.st sz) H [ev s a,ev s b]) ⟨fun v H'=>chkX (c :: cs) D H'∧@SZ P l ⟨D⟩ ⟨s.put d v⟩ ⟨H'⟩ ⟨K⟩⟩:=steps_st
theorem chkX_D0 {c:List Nat}:chkX c [] H=True:=by simp [chkX]
theorem chkX_D1 {c:List Nat} {j:Nat} {sz:Option Nat} {vs:List Value} {v:Value}:chkX c (⟨j,sz,vs,v⟩ :: D) H=((j∈c→qbh sz H vs=some v)∧chkX c D H):=by simp [chkX]
theorem S0_call {f:Operand}:@SZ P (⟨none,.call,f :: xs,d,j,kp,[]⟩ :: l) ⟨D⟩ ⟨s⟩ ⟨H⟩ ⟨K⟩=@qjc P (ev s f :: xs.map (ev s)) H ⟨fun v H'=>@SZ P l ⟨D⟩ ⟨s.put d v⟩ ⟨H'⟩ ⟨K⟩⟩:=by
  unfold SZ qjc;rw [steps_call];simp only [qd9,true_and]
theorem S0_callC {f:Operand} {c:Nat} {cs:List Nat}:@SZ P (⟨none,.call,f :: xs,d,j,kp,c :: cs⟩ :: l) ⟨D⟩ ⟨s⟩ ⟨H⟩ ⟨K⟩=@qjc P (ev s f :: xs.map (ev s)) H ⟨fun v H'=>chkX (c :: cs) D H'∧@SZ P l ⟨D⟩ ⟨s.put d v⟩ ⟨H'⟩ ⟨K⟩⟩:=steps_call
theorem callZ_f {g:FuncId} {args:List Value} {R:Value→AH→Prop}:@qjc P (.func (.func g) #[] #[] :: args) H ⟨R⟩=@FZ P g args H ⟨R⟩:=callX_f
theorem callZ_y {g:Nat} {args:List Value} {R:Value→AH→Prop}:@qjc P (.func (.yield g) #[] #[] :: args) H ⟨R⟩=@YZ P g args H ⟨R⟩:=callX_y
theorem S0_bin {op:BinOp} {m:Nat}:@SZ P (⟨none,.bin op m,[a,b],d,j,kp,chk⟩ :: l) ⟨D⟩ ⟨s⟩ ⟨H⟩ ⟨K⟩=@qbb (xbin op m (ev s a) (ev s b)) ⟨fun v=>@SZ P l ⟨D⟩ ⟨s.put d v⟩ ⟨H⟩ ⟨K⟩⟩:=steps_bin
theorem S0_un {op:UnOp}:@SZ P (⟨none,.un op,[a],d,j,kp,chk⟩ :: l) ⟨D⟩ ⟨s⟩ ⟨H⟩ ⟨K⟩=@qbb (eun op (ev s a)) ⟨fun v=>@SZ P l ⟨D⟩ ⟨s.put d v⟩ ⟨H⟩ ⟨K⟩⟩:=steps_un
theorem S0_conv {k:IntKind}:@SZ P (⟨none,.conv k,[a],d,j,kp,chk⟩ :: l) ⟨D⟩ ⟨s⟩ ⟨H⟩ ⟨K⟩=@qbb (qbc (.conv k) [ev s a]) ⟨fun v=>@SZ P l ⟨D⟩ ⟨s.put d v⟩ ⟨H⟩ ⟨K⟩⟩:=steps_conv
theorem S0_ext {ix:Nat}:@SZ P (⟨none,.ext ix,[a],d,j,kp,chk⟩ :: l) ⟨D⟩ ⟨s⟩ ⟨H⟩ ⟨K⟩=@qbb (qbc (.ext ix) [ev s a]) ⟨fun v=>@SZ P l ⟨D⟩ ⟨s.put d v⟩ ⟨H⟩ ⟨K⟩⟩:=steps_ext
theorem S0_fld {off:Nat}:@SZ P (⟨none,.fld off,[a],d,j,kp,chk⟩ :: l) ⟨D⟩ ⟨s⟩ ⟨H⟩ ⟨K⟩=@qbb (qbc (.fld off) [ev s a]) ⟨fun v=>@SZ P l ⟨D⟩ ⟨s.put d v⟩ ⟨H⟩ ⟨K⟩⟩:=steps_fld
theorem S0_ixA {n sz:Nat}:@SZ P (⟨none,.ixA n sz,[a,b],d,j,kp,chk⟩ :: l) ⟨D⟩ ⟨s⟩ ⟨H⟩ ⟨K⟩=@qbb (qbc (.ixA n sz) [ev s a,ev s b]) ⟨fun v=>@SZ P l ⟨D⟩ ⟨s.put d v⟩ ⟨H⟩ ⟨K⟩⟩:=steps_ixA
theorem S0_ixS {sz:Nat}:@SZ P (⟨none,.ixS sz,[a,b],d,j,kp,chk⟩ :: l) ⟨D⟩ ⟨s⟩ ⟨H⟩ ⟨K⟩=@qbb (qbc (.ixS sz) [ev s a,ev s b]) ⟨fun v=>@SZ P l ⟨D⟩ ⟨s.put d v⟩ ⟨H⟩ ⟨K⟩⟩:=steps_ixS
theorem S0_slA {n sz:Nat} {lo hi:Bool}:@SZ P (⟨none,.slA n sz lo hi,xs,d,j,kp,chk⟩ :: l) ⟨D⟩ ⟨s⟩ ⟨H⟩ ⟨K⟩=@qbb (qbc (.slA n sz lo hi) (xs.map (ev s))) ⟨fun v=>@SZ P l ⟨D⟩ ⟨s.put d v⟩ ⟨H⟩ ⟨K⟩⟩:=steps_slA
theorem S0_slS {sz:Nat} {lo hi:Bool}:@SZ P (⟨none,.slS sz lo hi,xs,d,j,kp,chk⟩ :: l) ⟨D⟩ ⟨s⟩ ⟨H⟩ ⟨K⟩=@qbb (qbc (.slS sz lo hi) (xs.map (ev s))) ⟨fun v=>@SZ P l ⟨D⟩ ⟨s.put d v⟩ ⟨H⟩ ⟨K⟩⟩:=steps_slS
theorem S0_fn {g:FuncId} {nf nc:Nat}:@SZ P (⟨none,.fn g nf nc,xs,d,j,kp,chk⟩ :: l) ⟨D⟩ ⟨s⟩ ⟨H⟩ ⟨K⟩=@qbb (qbc (.fn g nf nc) (xs.map (ev s))) ⟨fun v=>@SZ P l ⟨D⟩ ⟨s.put d v⟩ ⟨H⟩ ⟨K⟩⟩:=steps_fn
theorem S0_lenS  : @SZ P (⟨none,.lenS,[a],d,j,kp,chk⟩ :: l) ⟨D⟩ ⟨s⟩ ⟨H⟩ ⟨K⟩=@qbb (qbc .lenS [ev s a]) ⟨fun v=>@SZ P l ⟨D⟩ ⟨s.put d v⟩ ⟨H⟩ ⟨K⟩⟩:=steps_lenS
theorem S0_lenT  : @SZ P (⟨none,.lenT,[a],d,j,kp,chk⟩ :: l) ⟨D⟩ ⟨s⟩ ⟨H⟩ ⟨K⟩=@qbb (qbc .lenT [ev s a]) ⟨fun v=>@SZ P l ⟨D⟩ ⟨s.put d v⟩ ⟨H⟩ ⟨K⟩⟩:=steps_lenT
theorem S0_min2  : @SZ P (⟨none,.min2,[a,b],d,j,kp,chk⟩ :: l) ⟨D⟩ ⟨s⟩ ⟨H⟩ ⟨K⟩=@qbb (qbc .min2 [ev s a,ev s b]) ⟨fun v=>@SZ P l ⟨D⟩ ⟨s.put d v⟩ ⟨H⟩ ⟨K⟩⟩:=steps_min2
theorem S0_max2  : @SZ P (⟨none,.max2,[a,b],d,j,kp,chk⟩ :: l) ⟨D⟩ ⟨s⟩ ⟨H⟩ ⟨K⟩=@qbb (qbc .max2 [ev s a,ev s b]) ⟨fun v=>@SZ P l ⟨D⟩ ⟨s.put d v⟩ ⟨H⟩ ⟨K⟩⟩:=steps_max2
theorem S0_prt {sz:Option Nat} {off:Nat}:@SZ P (⟨none,.prt sz off,[a],d,j,kp,chk⟩ :: l) ⟨D⟩ ⟨s⟩ ⟨H⟩ ⟨K⟩=@qbb (qbc (.prt sz off) [ev s a]) ⟨fun v=>@SZ P l ⟨D⟩ ⟨s.put d v⟩ ⟨H⟩ ⟨K⟩⟩:=steps_prt
theorem S0_ixV {len es:Nat} {sz:Option Nat}:@SZ P (⟨none,.ixV len es sz,[a,b],d,j,kp,chk⟩ :: l) ⟨D⟩ ⟨s⟩ ⟨H⟩ ⟨K⟩=@qbb (qbc (.ixV len es sz) [ev s a,ev s b]) ⟨fun v=>@SZ P l ⟨D⟩ ⟨s.put d v⟩ ⟨H⟩ ⟨K⟩⟩:=steps_ixV
end
theorem FN.of_compZ {P:Program} (hm:P.follows .mixedOrders=true) {f:FuncId} {xf:XF} (hf:qb3 P f=some xf) {args:List Value} {H:AH} {R:Value→AH→Prop} (hn:args.length≤xf.n)
    (h:@XZ P xf.n none xf.body ⟨⟨env0 args,[]⟩⟩ ⟨H⟩ ⟨bodyX xf.res R⟩):FN P f args H R:=FN.of_comp hm hf hn h
theorem FZ.mono {P:Program} {g:FuncId} {args:List Value} {H:AH} {R R':Value→AH→Prop} (h:FN P g args H R) (hR:∀ v H',R v H'→R' v H'):@FZ P g args H ⟨R'⟩:=FN.mono h hR
theorem FZ.use {P:Program} {g:FuncId} {args:List Value} {H H':AH} {v:Value} {R:Value→AH→Prop} (h:FN P g args H (fun v1 H1=>v1=v∧H1=H')) (hR:R v H'):@FZ P g args H ⟨R⟩:=
  FN.mono h fun _ _ ⟨e1,e2⟩=>by rw [e1,e2];exact hR
theorem LZ.nat {P:Program} {n:Nat} {ro:Option Nat} {c:XC} {s:St} {H:AH} {Q:AX→St→AH→Prop} (N:Nat) (I:Nat→St→AH→Prop) (h0:I 0 s H)
    (hr:∀ k s H,k<N→I k s H→@XZ P n ro c ⟨s⟩ ⟨H⟩ ⟨AX.then (I (k+1)) Q⟩) (hN:∀ s H,I N s H→@XZ P n ro c ⟨s⟩ ⟨H⟩ ⟨AX.then (fun _ _=>False) Q⟩):@LZ P n ro c ⟨s⟩ ⟨H⟩ ⟨Q⟩:=loop_nat N I h0 hr hN
theorem LZ.ind {P:Program} {n:Nat} {ro:Option Nat} {c:XC} {s:St} {H:AH} {Q:AX→St→AH→Prop} (I:Nat→St→AH→Prop) (m:Nat) (h0:I m s H)
    (hr:∀ m s H,I m s H→@XZ P n ro c ⟨s⟩ ⟨H⟩ ⟨AX.then (fun s' H'=>∃ m',m'<m∧I m' s' H') Q⟩):@LZ P n ro c ⟨s⟩ ⟨H⟩ ⟨Q⟩:=loop_ind I m h0 hr
end Go.Sim

namespace Go.Sim
open Go
theorem app_nv {H:AH} {e:TypeId} {bytes b b2 o2 n m c2:Nat} {l l2:List Nat} {cc:List Value} {e2:TypeId} {opn op2:Option Nat} {r2:Bool} (hb:H[b]? = some (.cells (l.map nv) e opn false)) (hn:n=l.length) (hopn:opn=none∨opn=some 1)
    (hb2:H[b2]? = some (.cells cc e2 op2 r2)) (hcc:(cc.drop o2).take m=l2.map nv) (hm:m=l2.length) (hm0:0<m) (hfit:o2+m≤cc.length) (hbig:(n+m)*bytes≤140737488355328) (hbig2:n+m≤9223372036854775807) :
    ∃ H1,xact (.app e 1 bytes) H [.slice (some ⟨b,0,none⟩) n n,.slice (some ⟨b2,o2,none⟩) m c2]=some (.slice (some ⟨H.length,0,none⟩) (n+m) (n+m),H1++[.cells ((l++l2).map nv) e (some 1) false]) ∧
      H1.length=H.length∧∀ b',b'≠b→H1[b']? = H[b']?:=by
  have hrow:erow H (.slice (some ⟨b2,o2,none⟩) m c2) (slen (.slice (some ⟨b2,o2,none⟩) m c2)*1)=some (l2.map nv):=by
    simp only [erow,slen,hb2,Nat.mul_one]
    rw [if_pos hfit,hcc]
  have hone:(l2.map nv).all one=true:=qbd
  have hlen:(l.map nv).length=n:=by simp [hn]
  rcases hopn with rfl|rfl
  · refine⟨H,?_,rfl,fun _ _=>rfl⟩
    simp only [xact,hrow]
    rw [if_pos ⟨by simpa [slen] using hbig,by simpa [slen] using hbig2,hone⟩]
    simp only [hb,slen]
    rw [if_neg (by omega),if_pos trivial,if_pos (by rw [hlen];omega)]
    simp [hn,List.take_of_length_le]
  · refine⟨H.set b .dead,?_,by simp,fun b' hb'=>List.getElem?_set_ne (Ne.symm hb')⟩
    simp only [xact,hrow]
    rw [if_pos ⟨by simpa [slen] using hbig,by simpa [slen] using hbig2,hone⟩]
    simp only [hb,slen]
    rw [if_neg (by omega),if_neg (by simp),if_pos (by simp [hlen])]
    simp
theorem qrp {σ:Nat→Option Nat} {b2 b o l c:Nat} (h:σ b2=some b):VR (hat σ) (.slice (some ⟨b2,o,none⟩) l c) (.slice (some ⟨b,o,none⟩) l c):=by
  have:=VR.slice (i:=hat σ) (a:=⟨b2,o,none⟩) (L:=⟨b,0,0,0⟩) (l:=l) (c:=c) (by simp [hat,h]) rfl (.inl rfl)
  simpa using this
theorem AR_nv {σ:Nat→Option Nat} {l:List Nat} {e:TypeId} {o:Option Nat} {r:Bool}:AR σ (.cells (l.map nv) e o r) (.cells (l.map nv) e o r):=
  .cells e o r (VRs.ground (by simp [ground,scal]))
theorem gc1_nv {H H1:AH} {b l c:Nat} {ns:List Nat} {e:TypeId} {o:Option Nat} {r:Bool} (hb:H.length≤b) (hx:H1[b]? = some (.cells (ns.map nv) e o r)) (hk:Keep H.length H H1) {v:Value} (hv:v=.slice (some ⟨b,0,none⟩) l c) :
    ∃ J k v2 x,H1=H++J∧J[k]? = some x∧(∀ σ,(∀ b,b<H.length→σ b=some b)→σ H.length=some (H.length+k)→VR (hat σ) v2 v∧AR σ x x) ∧
      v2=.slice (some ⟨H.length,0,none⟩) l c∧x=.cells (ns.map nv) e o r:=by
  obtain⟨J,rfl⟩:=hk.split
  obtain⟨k,rfl⟩:∃ k,b=H.length+k:=⟨b-H.length,by omega⟩
  rw [get_new] at hx
  subst hv
  exact⟨J,k,_,_,rfl,hx,fun σ _ h=>⟨qrp h,AR_nv⟩,rfl,rfl⟩
theorem Keep.step {lo b:Nat} {H H1 H2 Y Z:AH} (hk:Keep lo H H1) (hb:lo≤b) (hl:H2.length=(H1++Y).length) (hk2:∀ b',b'≠b→H2[b']? = (H1++Y)[b']?):Keep lo H (H2++Z):=by
  have h1:=hk.1
  have h2:H2.length=H1.length+Y.length:=by simpa using hl
  refine⟨by simp;omega,fun n hn=>?_⟩
  rw [List.getElem?_append_left (by omega),hk2 n (by omega),List.getElem?_append_left (by omega)]
  exact hk.2 n hn
theorem app_none {H:AH} {e:TypeId} {bytes b b2 o2 n m c2:Nat} {l l2:List Nat} {cc:List Value} {e2:TypeId} {op2:Option Nat} {r2:Bool} (hb:H[b]? = some (.cells (l.map nv) e none false)) (hn:n=l.length)
    (hb2:H[b2]? = some (.cells cc e2 op2 r2)) (hcc:(cc.drop o2).take m=l2.map nv) (hm:m=l2.length) (hm0:0<m) (hfit:o2+m≤cc.length) (hbig:(n+m)*bytes≤140737488355328) (hbig2:n+m≤9223372036854775807) :
    xact (.app e 1 bytes) H [.slice (some ⟨b,0,none⟩) n n,.slice (some ⟨b2,o2,none⟩) m c2]=some (.slice (some ⟨H.length,0,none⟩) (n+m) (n+m),H++[.cells ((l++l2).map nv) e (some 1) false]):=by
  have hrow:erow H (.slice (some ⟨b2,o2,none⟩) m c2) (slen (.slice (some ⟨b2,o2,none⟩) m c2)*1)=some (l2.map nv):=by
    simp only [erow,slen,hb2,Nat.mul_one]
    rw [if_pos hfit,hcc]
  have hone:(l2.map nv).all one=true:=qbd
  have hlen:(l.map nv).length=n:=by simp [hn]
  simp only [xact,hrow]
  rw [if_pos ⟨by simpa [slen] using hbig,by simpa [slen] using hbig2,hone⟩]
  simp only [hb,slen]
  rw [if_neg (by omega),if_pos trivial,if_pos (by rw [hlen];omega)]
  simp [hn,List.take_of_length_le]
theorem qjx {sz b o l c h:Nat} {k:IntKind} (hh:h≤c):qbc (.slS sz false true) [.slice (some ⟨b,o,none⟩) l c,.int k h]=some (.slice (some ⟨b,o,none⟩) h c):=by
  simp [qbc,bnds]
  omega
theorem madeL_zero (n:Nat):madeL (nv 0) n=(List.replicate n 0).map nv:=by
  unfold madeL madeCells
  refine List.ext_getElem (by simp) fun i h1 h2=>?_
  simp [Value.cells,Nat.mod_one]
theorem qdw {e:TypeId} {bytes a:Nat} (h:bytes*a≤281474976710656) (h2:a≤9223372036854775807):xnew (.make (nv 0) 1 bytes e) [nv a,nv a]=some ((List.replicate a 0).map nv,e,fun b=>.slice (some ⟨b,0,none⟩) a a):=by
  simp only [xnew]
  rw [if_pos ⟨by omega,by omega,by omega,by omega⟩]
  simp only [Int.toNat_natCast,Nat.mul_one,madeL_zero]
theorem app_open {H:AH} {e:TypeId} {bytes b b2 o2 n m c2:Nat} {l l2:List Nat} {cc:List Value} {e2:TypeId} {op2:Option Nat} {r2:Bool} (hb:H[b]? = some (.cells (l.map nv) e (some 1) false)) (hn:n=l.length)
    (hb2:H[b2]? = some (.cells cc e2 op2 r2)) (hcc:(cc.drop o2).take m=l2.map nv) (hm:m=l2.length) (hm0:0<m) (hfit:o2+m≤cc.length) (hbig:(n+m)*bytes≤140737488355328) (hbig2:n+m≤9223372036854775807) :
    xact (.app e 1 bytes) H [.slice (some ⟨b,0,none⟩) n n,.slice (some ⟨b2,o2,none⟩) m c2]=some (.slice (some ⟨H.length,0,none⟩) (n+m) (n+m),H.set b .dead++[.cells ((l++l2).map nv) e (some 1) false]):=by
  have hrow:erow H (.slice (some ⟨b2,o2,none⟩) m c2) (slen (.slice (some ⟨b2,o2,none⟩) m c2)*1)=some (l2.map nv):=by
    simp only [erow,slen,hb2,Nat.mul_one]
    rw [if_pos hfit,hcc]
  have hone:(l2.map nv).all one=true:=qbd
  have hlen:(l.map nv).length=n:=by simp [hn]
  simp only [xact,hrow]
  rw [if_pos ⟨by simpa [slen] using hbig,by simpa [slen] using hbig2,hone⟩]
  simp only [hb,slen]
  rw [if_neg (by omega),if_neg (by simp),if_pos (by simp [hlen])]
  simp
end Go.Sim

namespace Go.Sim
open Go
theorem X_gen {P:Program} {n:Nat} {ro:Option Nat} {c:XC} {s:St} {H:AH} {Q:AX→St→AH→Prop} (I:St→AH→Prop) (h0:I s H) (h:∀ s H,I s H→X P n ro c s H Q):X P n ro c s H Q:=h s H h0
theorem qcm {env:Nat→Value} {t0:Tmp} {v:Value} {ds:List Deferred} (t:Tmp):(⟨qm2 env [t0] [v],ds⟩:St).env t=if t=t0 then v else env t:=_root_.id rfl
theorem qcr {env:Nat→Value} {t0:Tmp} {v:Value} (t:Tmp):qm2 env [t0] [v] t=if t=t0 then v else env t:=_root_.id rfl
def ynB (l:Nat) (R:Value→AH→Prop):AX→St→AH→Prop:=fun x _ H3=>∃ r3,H3[l]? = some (.loop r3) ∧
  R (.bool x.isN) (H3.set l (.loop { r3 with state:=if x.isN then .ready else .done,pending:=x.jump }))
def ynA (P:Program) (l n:Nat) (xb:XC) (R:Value→AH→Prop):AX→St→AH→Prop:=fun x s1 H1=>x=.normal∧∃ r1,H1[l]? = some (.loop r1)∧r1.state=.ready ∧
  X P n (some l) xb s1 (H1.set l (.loop { r1 with state:=.busy,pending:=r1.pending })) (ynB l R)
theorem E_ynA {P:Program} {l n:Nat} {xb:XC} {R:Value→AH→Prop} {s:St} {H:AH}:EZ (ynA P l n xb R) .normal s H = ∃ r1,H[l]? = some (.loop r1)∧r1.state=.ready ∧
    @XZ P n (some l) xb ⟨s⟩ ⟨H.set l (.loop { r1 with state:=.busy,pending:=r1.pending })⟩ ⟨ynB l R⟩:=by
  simp [EZ,ynA,XZ]
theorem E_ynB {l:Nat} {R:Value→AH→Prop} {x:AX} {s:St} {H:AH}:EZ (ynB l R) x s H = ∃ r3,H[l]? = some (.loop r3) ∧
    R (.bool x.isN) (H.set l (.loop { r3 with state:=if x.isN then .ready else .done,pending:=x.jump })):=_root_.id rfl
theorem YN.introZ {P:Program} (hm:P.follows .mixedOrders=true) {l:Nat} {vs:List Value} {H:AH} {R:Value→AH→Prop} {r:ALoop} {xa xb:XC} (hl:H[l]? = some (.loop r)) (ha:comp P r.n r.assign=some xa) (hb:comp P r.n r.body=some xb)
    (hps:r.params.size=vs.length) (hpn:∀ t∈r.params.toList,t<r.n)
    (h:@XZ P r.n (some l) xa ⟨⟨qm2 r.env r.params.toList vs,[]⟩⟩ ⟨H⟩ ⟨ynA P l r.n xb R⟩):YN P l vs H R:=
  YN.intro hm hl ha hb hps hpn h
theorem EZ_of {Q:AX→St→AH→Prop} {x:AX} {s:St} {H:AH} (h:EZ Q x s H):Q x s H:=h
theorem qpc {r:Nat} {ds:List Deferred} {H:AH} (h:H[r]? = some (.defs (some []))):unwA (⟨.collected r,#[]⟩ :: ds) H=unwA ds (H.set r (.defs none)):=by
  simp [unwA,h]
theorem xbin_subZ {a b m:Nat} (h:a<1000000) (h2:b<1000000):xbin .sub m (nv a) (nv b)=some (.int .i64 ((a:Int)-(b:Int))):=by
  rw [qhw,qg5 (by omega) (by omega)]
theorem xbin_addZ {z:Int} {b m:Nat} (h:-1000000<z) (h1:z<1000000) (h2:b<1000000):xbin .add m (.int .i64 z) (nv b)=some (.int .i64 (z+(b:Int))):=by
  rw [qn7,qg5 (by omega) (by omega)]
end Go.Sim

namespace Go.Sim
open Go
def clo:Value→Bool
  | .tuple a=>a.toList.all ground
  | v=>ground v
theorem VR.of_clo {v:Value} (h:clo v=true) (i:Inj):VR i v v:=by
  unfold clo at h
  split at h
  · rename_i a
    have:=VRs.tup (VRs.ground (i:=i) h)
    simpa using this
  · exact VR.of_ground h i
theorem VRs.aggL {i:Inj} {l l':List Value} (h:VRs i l l'):VR i (.agg l.toArray) (.agg l'.toArray):=
  .agg (by simp [h.length]) (fun k h1 h2=>by simpa using h.at_ k (by simpa using h1) (by simpa using h2))
inductive KRes
  | val (v:Value)
  | row (l c:Nat) (x:AB)
  | fld (p e n c er:Nat) (x:AB)
def KRes.mk:KRes→Nat→Value
  | .val v,_=>v
  | .row l c _,b=>.slice (some ⟨b,0,none⟩) l c
  | .fld p e n c er _,b=>.tuple [.agg [nv p,nv e,.slice (some ⟨b,0,none⟩) n c].toArray,nv er].toArray
def KRes.hp:KRes→AH→AH
  | .val _,H=>H
  | .row _ _ x,H=>H++[x]
  | .fld _ _ _ _ _ x,H=>H++[x]
def qmq (P:Program) (g:FuncId) (args:List Value) (r:KRes):Prop:=∀ H,FN P g args H (fun v H'=>v=r.mk H.length∧H'=r.hp H)
theorem known_val {P:Program} {g:FuncId} {args:List Value} {v:Value} {J:AH} (hg:args.all ground=true) (hv:clo v=true) (h:FN P g args [] (fun v1 H1=>v1=v∧H1=J)) (H:AH):FN P g args H (fun v1 H'=>v1=v∧H'=H):=by
  obtain⟨hc,v1,H1,⟨rfl,rfl⟩,hs⟩:=h
  have h2:FSim P g args [] v1 []:=hs.rename (fun _=>none) (fun b hb=>by simp at hb) (fun b o _ ho=>by cases ho) (fun b b' o h1=>by cases h1) (VR.of_clo hv _) (Nat.le_refl _) (fun b hb=>by simp at hb)
  exact⟨hc,v1,H++[],⟨rfl,by simp⟩,h2.frame hg H (VR.of_clo hv _) rfl (fun k x hk=>by simp at hk)⟩
theorem qkj {P:Program} {g:FuncId} {args:List Value} {mk:Nat→Value} {x:AB} {J:AH} {k:Nat} (hg:args.all ground=true) (hmk:∀ (σ:Nat→Option Nat) b2 b,σ b2=some b→VR (hat σ) (mk b2) (mk b))
    (hx:∀ σ,AR σ x x) (hJ:J[k]? = some x) (h:FN P g args [] (fun v1 H1=>v1=mk k∧H1=J)) (H:AH):FN P g args H (fun v1 H'=>v1=mk H.length∧H'=H++[x]):=by
  have h1:FN P g args [] (fun v H'=>∃ x1,H'=[]++[x1]∧v=mk 0∧x1=x):=FN.gc1 (R:=fun v x1=>v=mk 0∧x1=x) (h.mono (by
    rintro _ _ ⟨rfl,rfl⟩
    exact⟨_,k,mk 0,x,(List.nil_append _).symm,hJ,fun σ _ h=>⟨hmk σ 0 k (by simpa using h),hx σ⟩,rfl,rfl⟩))
  obtain⟨hc,v1,H1,⟨x1,rfl,rfl,rfl⟩,hs⟩:=h1
  refine⟨hc,mk H.length,H++[x1],⟨rfl,rfl⟩,hs.frame hg H (hmk _ _ _ (by simp)) rfl (fun k x hk=>?_)⟩
  cases k with
  | zero=>simp at hk;subst hk;exact⟨_,rfl,hx _⟩
  | succ k=>simp at hk
theorem KRes.mk_row {l c:Nat} {x:AB} (σ:Nat→Option Nat) (b2 b:Nat) (h:σ b2=some b):VR (hat σ) ((KRes.row l c x).mk b2) ((KRes.row l c x).mk b):=qrp h
theorem KRes.mk_fld {p e n c er:Nat} {x:AB} (σ:Nat→Option Nat) (b2 b:Nat) (h:σ b2=some b):VR (hat σ) ((KRes.fld p e n c er x).mk b2) ((KRes.fld p e n c er x).mk b):=
  VRs.tup (.cons (VRs.aggL (.cons (.int _ _) (.cons (.int _ _) (.cons (qrp h) .nil)))) (.cons (.int _ _) .nil))
def blkOf:Value→Nat
  | .slice (some a) _ _=>a.block
  | .tuple a=>match a.toList with
    | .agg c :: _=>match c.toList with
      | [_,_,.slice (some a) _ _]=>a.block
      | _=>0
    | _=>0
  | _=>0
def eqVL:List Value→List Value→Bool
  | [],[]=>true
  | a :: l,b :: m=>eqV a b && eqVL l m
  | _,_=>false
theorem eqVL_eq:∀ {a b:List Value},eqVL a b=true→a=b
  | [],[],_=>rfl
  | a :: l,b :: m,h=>by
    simp only [eqVL,Bool.and_eq_true] at h
    rw [eqV_eq h.1,eqVL_eq h.2]
  | [],_ :: _,h=>by simp [eqVL] at h
  | _ :: _,[],h=>by simp [eqVL] at h
def eqW:Value→Value→Bool
  | .tuple a,.tuple b=>eqVL a.toList b.toList
  | a,b=>eqV a b
theorem eqW_eq {a b:Value} (h:eqW a b=true):a=b:=by
  unfold eqW at h
  split at h
  · have:=eqVL_eq h
    congr 1
    exact Array.ext' this
  · exact eqV_eq h
def eqB:Option AB→AB→Bool
  | some (.cells c e o r),.cells c' e' o' r'=>eqL c c' && e == e' && o == o' && r == r' && c'.all ground
  | _,_=>false
theorem eqB_eq {a:Option AB} {x:AB} (h:eqB a x=true):a=some x∧∀ σ,AR σ x x:=by
  unfold eqB at h
  split at h
  · simp only [Bool.and_eq_true,beq_iff_eq] at h
    obtain⟨⟨⟨⟨h1,rfl⟩,rfl⟩,rfl⟩,h2⟩:=h
    rw [eqL_eq h1]
    exact⟨rfl,fun σ=>.cells _ _ _ (VRs.ground h2)⟩
  · cases h
def kChk (r:Option (Value×AH)) (kr:KRes):Bool:=match r with
  | none=>false
  | some (v,J)=>match kr with
    | .val w=>eqW v w && clo w
    | .row l c x=>eqW v ((KRes.row l c x).mk (blkOf v)) && eqB J[blkOf v]? x
    | .fld p e n c er x=>eqW v ((KRes.fld p e n c er x).mk (blkOf v)) && eqB J[blkOf v]? x
theorem known_of {P:Program} (hm:P.follows .mixedOrders=true) {T:FuncId→Option XF} (hT:∀ g xf,T g=some xf→qb3 P g=some xf) {O:qf7} (hO:CallOk P O) {L d:Nat} {g:FuncId} {args:List Value} {kr:KRes}
    (hg:args.all ground=true) (h:kChk (callF T O L d g args []) kr=true):qmq P g args kr:=by
  intro H
  unfold kChk at h
  split at h
  · cases h
  · rename_i v J hv
    have hF:=(callF_ok hm hT hO L d g args [] v J hv).1
    split at h
    · rename_i w
      rw [Bool.and_eq_true] at h
      have:=eqW_eq h.1
      subst this
      exact known_val hg h.2 hF H
    · rename_i l c x
      rw [Bool.and_eq_true] at h
      have h1:=eqW_eq h.1
      obtain⟨h2,h3⟩:=eqB_eq h.2
      exact qkj (mk:=(KRes.row l c x).mk) hg KRes.mk_row h3 h2 (hF.mono (by rintro _ _ ⟨rfl,rfl⟩;exact⟨h1,rfl⟩)) H
    · rename_i p e n c er x
      rw [Bool.and_eq_true] at h
      have h1:=eqW_eq h.1
      obtain⟨h2,h3⟩:=eqB_eq h.2
      exact qkj (mk:=(KRes.fld p e n c er x).mk) hg KRes.mk_fld h3 h2 (hF.mono (by rintro _ _ ⟨rfl,rfl⟩;exact⟨h1,rfl⟩)) H
abbrev KTab:=List (List Value×KRes)
def KTabOk (P:Program) (g:FuncId) (t:KTab):Prop:=∀ x∈t,qmq P g x.1 x.2
noncomputable def kAll (T:FuncId→Option XF) (O:qf7) (L d:Nat) (g:FuncId) (t:KTab):Bool:=
  List.rec true (fun x _ ih=>bif x.1.all ground && kChk (callF T O L d g x.1 []) x.2 then ih else false) t
theorem KTabOk.of {P:Program} (hm:P.follows .mixedOrders=true) {T:FuncId→Option XF} (hT:∀ g xf,T g=some xf→qb3 P g=some xf) {O:qf7} (hO:CallOk P O) {L d:Nat} {g:FuncId}:∀ {t:KTab},kAll T O L d g t=true→KTabOk P g t
  | [],_=>by intro x hx;cases hx
  | y :: t,h=>by
    change (bif y.1.all ground && kChk (callF T O L d g y.1 []) y.2 then kAll T O L d g t else false)=true at h
    cases e:(y.1.all ground && kChk (callF T O L d g y.1 []) y.2) with
    | false=>rw [e] at h;cases h
    | true =>
      rw [e] at h
      rw [Bool.and_eq_true] at e
      intro x hx
      cases hx with
      | head=>exact known_of hm hT hO e.1 e.2
      | tail _ hx=>exact KTabOk.of hm hT hO h x hx
theorem KTabOk.append {P:Program} {g:FuncId} {a b:KTab} (ha:KTabOk P g a) (hb:KTabOk P g b):KTabOk P g (a++b):=by
  intro x hx
  rcases List.mem_append.1 hx with h|h
  · exact ha x h
  · exact hb x h
noncomputable def kOut (H:AH) (r:KRes):Option (Value×AH):=
  KRes.rec (fun v=>some (v,H)) (fun l c x=>qdv (lenN H) fun b=>some ((KRes.row l c x).mk b,H++[x])) (fun p e n c er x=>qdv (lenN H) fun b=>some ((KRes.fld p e n c er x).mk b,H++[x])) r
theorem kOut_eq (H:AH) (r:KRes):kOut H r=some (r.mk H.length,r.hp H):=by
  have hl:∀ H:AH,lenN H=H.length:=fun H=>lenN_eq H
  cases r with
  | val v=>rfl
  | row l c x =>
    change qdv (lenN H) (fun b=>some ((KRes.row l c x).mk b,H++[x]))=_
    rw [qd2,hl];rfl
  | fld p e n c er x =>
    change qdv (lenN H) (fun b=>some ((KRes.fld p e n c er x).mk b,H++[x]))=_
    rw [qd2,hl];rfl
noncomputable def oKn (g:FuncId) (t:KTab):qf7:=fun g' args H=>bif Nat.beq g g' then List.rec none (fun x _ ih=>bif eqL x.1 args then kOut H x.2 else ih) t else none
theorem oKn_ok {P:Program} {g:FuncId} {t:KTab} (h:KTabOk P g t):CallOk P (oKn g t):=by
  intro g' args H v H' he
  unfold oKn at he
  cases hg:Nat.beq g g' with
  | false=>rw [hg] at he;cases he
  | true =>
    rw [hg] at he
    simp only [cond_true] at he
    have hg:=Nat.eq_of_beq_eq_true hg
    subst hg
    induction t with
    | nil=>cases he
    | cons x t ih =>
      change (bif eqL x.1 args then kOut H x.2 else List.rec none (fun x _ ih=>bif eqL x.1 args then kOut H x.2 else ih) t)=_ at he
      cases hx:eqL x.1 args with
      | false=>rw [hx] at he;exact ih (fun y hy=>h y (List.mem_cons_of_mem _ hy)) he
      | true =>
        rw [hx,cond_true,kOut_eq] at he
        have h0:=eqL_eq hx
        subst h0
        have h1:=h x List.mem_cons_self H
        cases he
        refine⟨h1,?_⟩
        have hk:∀ y,Keep H.length H (H++[y]):=fun y=>⟨by simp,fun b hb=>List.getElem?_append_left hb⟩
        cases x.2 with
        | val v=>exact Keep.refl (Nat.le_refl _)
        | row l c y=>exact hk y
        | fld p e n c er y=>exact hk y
end Go.Sim

namespace Go.Sim
open Go
theorem u8_of_wf {n:Int} (h:(Lit.int .u8 n).wf=true):∃ k:Nat,n=(k:Int)∧k<256:=by
  simp [Lit.wf,IntKind.min,IntKind.max,IntKind.signed,IntKind.bits] at h
  exact⟨n.toNat,by omega,by omega⟩
end Go.Sim
