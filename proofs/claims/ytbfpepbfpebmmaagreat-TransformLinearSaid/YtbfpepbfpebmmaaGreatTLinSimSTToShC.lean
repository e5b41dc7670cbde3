/- Part of the proof: SimST, ShA, ShB, ShC. -/
import Derived.Test.YtbfpepbfpebmmaaGreatTLinSimWToSimX2
set_option linter.all false
set_option maxRecDepth 100000
namespace Go.Sim
open Go
theorem qbk:(type_of% @X0_skip)∧(type_of% @X0_exit)∧(type_of% @X0_ret)∧(type_of% @X0_seq)∧(type_of% @X0_cond)∧(type_of% @X0_block)∧(type_of% @X0_loop)∧(type_of% @X0_reg)∧(type_of% @qk0)∧(type_of% @qr4)∧(type_of% @E_then_ret)∧(type_of% @qg7)∧(type_of% @qjk)∧(type_of% @qk1)∧(type_of% @E_normal)∧(type_of% @E_ret)∧(type_of% @S0_mov)∧(type_of% @S0_pick)∧(type_of% @S0_bin)∧(type_of% @S0_un)∧(type_of% @S0_conv)∧(type_of% @S0_ext)∧(type_of% @S0_fld)∧(type_of% @S0_ixA)∧(type_of% @S0_ixS)∧(type_of% @S0_slA)∧(type_of% @S0_slS)∧(type_of% @S0_fn)∧(type_of% @S0_lenA)∧(type_of% @S0_lenS)∧(type_of% @S0_lenT)∧(type_of% @S0_min2)∧(type_of% @S0_max2)∧(type_of% @S0_bld)∧(type_of% @S0_prt)∧(type_of% @S0_ixV)∧(type_of% @S0_ldF)∧(type_of% @S0_ldT)∧(type_of% @S0_new)∧(type_of% @S0_box)∧(type_of% @S0_make)∧(type_of% @S0_bsl)∧(type_of% @S0_st)∧(type_of% @S0_app)∧(type_of% @S0_appC)∧(type_of% @S0_stC)∧(type_of% @S0_call)∧(type_of% @S0_callC)∧(type_of% @S0_guardT)∧(type_of% @S0_guardF)∧(type_of% @S0_nil):=⟨@X0_skip,@X0_exit,@X0_ret,@X0_seq,@X0_cond,@X0_block,@X0_loop,@X0_reg,@qk0,@qr4,@E_then_ret,@qg7,@qjk,@qk1,@E_normal,@E_ret,@S0_mov,@S0_pick,@S0_bin,@S0_un,@S0_conv,@S0_ext,@S0_fld,@S0_ixA,@S0_ixS,@S0_slA,@S0_slS,@S0_fn,@S0_lenA,@S0_lenS,@S0_lenT,@S0_min2,@S0_max2,@S0_bld,@S0_prt,@S0_ixV,@S0_ldF,@S0_ldT,@S0_new,@S0_box,@S0_make,@S0_bsl,@S0_st,@S0_app,@S0_appC,@S0_stC,@S0_call,@S0_callC,@S0_guardT,@S0_guardF,@S0_nil⟩
theorem stOwn:(type_of% @callZ_f)∧(type_of% @callZ_y)∧(type_of% @qd9)∧(type_of% @chkX_D0)∧(type_of% @chkX_D1)∧(type_of% @asB_bool)∧(type_of% @asNB_bool)∧(type_of% @bindO_some)∧(type_of% @bindP_some)∧(type_of% @bindN_some)∧(type_of% @bindU_some)∧(type_of% @bindL_some)∧(type_of% @letV_eq)∧(type_of% @letH_eq)∧(type_of% @condK_bool)∧(type_of% @qrq)∧(type_of% @qnj)∧(type_of% @pickK_true)∧(type_of% @qqs)∧(type_of% @xbin_eqlB)∧(type_of% @xbin_neqB)∧(type_of% @eun_not)∧(type_of% @qrv)∧(type_of% @xp_conv')∧(type_of% @xp_ext')∧(type_of% @xp_ext'')∧(type_of% @xp_fld')∧(type_of% @xp_lenS')∧(type_of% @xp_lenT')∧(type_of% @xload_ptr)∧(type_of% @xact_st)∧(type_of% @loadB_nv)∧(type_of% @loadB_c0)∧(type_of% @loadB_c1)∧(type_of% @loadB_c2)∧(type_of% @loadB_c3)∧(type_of% @loadB_cs)∧(type_of% @loadB_all)∧(type_of% @stB_nv)∧(type_of% @stB_intL)∧(type_of% @stB_bool)∧(type_of% @stB_slice)∧(type_of% @qgt)∧(type_of% @get_new)∧(type_of% @qh6)∧(type_of% @set_new)∧(type_of% @set_new0)∧(type_of% @cellsL_agg)∧(type_of% @cellsL_int)∧(type_of% @qr0)∧(type_of% @qnq)∧(type_of% @ev_tmp)∧(type_of% @ev_const)∧(type_of% @ev_func)∧(type_of% @put_env)∧(type_of% @put_none)∧(type_of% @put_dsS)∧(type_of% @env0_env)∧(type_of% @env0_at)∧(type_of% @unwA_nil)∧(type_of% @xress_one)∧(type_of% @xress_two)∧(type_of% @tup2_some)∧(type_of% @xres_cell)∧(type_of% @xres_tmp):=⟨@callZ_f,@callZ_y,@qd9,@chkX_D0,@chkX_D1,@asB_bool,@asNB_bool,@bindO_some,@bindP_some,@bindN_some,@bindU_some,@bindL_some,@letV_eq,@letH_eq,@condK_bool,@qrq,@qnj,@pickK_true,@qqs,@xbin_eqlB,@xbin_neqB,@eun_not,@qrv,@xp_conv',@xp_ext',@xp_ext'',@xp_fld',@xp_lenS',@xp_lenT',@xload_ptr,@xact_st,@loadB_nv,@loadB_c0,@loadB_c1,@loadB_c2,@loadB_c3,@loadB_cs,@loadB_all,@stB_nv,@stB_intL,@stB_bool,@stB_slice,@qgt,@get_new,@qh6,@set_new,@set_new0,@cellsL_agg,@cellsL_int,@qr0,@qnq,@ev_tmp,@ev_const,@ev_func,@put_env,@put_none,@put_dsS,@env0_env,@env0_at,@unwA_nil,@xress_one,@xress_two,@tup2_some,@xres_cell,@xres_tmp⟩
theorem stNat:(type_of% @qj3)∧(type_of% @xbin_subN)∧(type_of% @qp0)∧(type_of% @qpx)∧(type_of% @qj1)∧(type_of% @qp5)∧(type_of% @qpz)∧(type_of% @qp1)∧(type_of% @qp2)∧(type_of% @qp3)∧(type_of% @qp4)∧(type_of% @xp_ixAN)∧(type_of% @xp_ixSN)∧(type_of% @qjz)∧(type_of% @xp_min2N)∧(type_of% @xp_max2N):=⟨@qj3,@xbin_subN,@qp0,@qpx,@qj1,@qp5,@qpz,@qp1,@qp2,@qp3,@qp4,@xp_ixAN,@xp_ixSN,@qjz,@xp_min2N,@xp_max2N⟩
theorem stInt:(type_of% @qn7)∧(type_of% @qhw)∧(type_of% @xbin_mul)∧(type_of% @xbin_quo)∧(type_of% @xbin_rem)∧(type_of% @xbin_eql)∧(type_of% @xbin_neq)∧(type_of% @qj2)∧(type_of% @xbin_leq)∧(type_of% @xbin_gtr)∧(type_of% @qn6)∧(type_of% @xp_ixA')∧(type_of% @qpv)∧(type_of% @qn4)∧(type_of% @qn5)∧(type_of% @qg5)∧(type_of% @loadB_one)∧(type_of% @stB_int):=⟨@qn7,@qhw,@xbin_mul,@xbin_quo,@xbin_rem,@xbin_eql,@xbin_neq,@qj2,@xbin_leq,@xbin_gtr,@qn6,@xp_ixA',@qpv,@qn4,@qn5,@qg5,@loadB_one,@stB_int⟩
theorem stList:(type_of% @List.mem_cons.{0})∧(type_of% @List.not_mem_nil.{0})∧(type_of% @List.map_cons.{0,0})∧(type_of% @List.map_nil.{0,0})∧(type_of% @List.getD_cons_zero.{0})∧(type_of% @List.getD_cons_succ.{0})∧(type_of% @List.getElem?_cons_zero.{0})∧(type_of% @List.getElem?_cons_succ.{0})∧(type_of% @List.set_cons_zero.{0})∧(type_of% @List.set_cons_succ.{0})∧(type_of% @List.append_assoc.{0})∧(type_of% @List.cons_append.{0})∧(type_of% @List.nil_append.{0})∧(type_of% @List.length_append.{0})∧(type_of% @List.length_cons.{0})∧(type_of% @List.length_nil.{0}):=⟨@List.mem_cons.{0},@List.not_mem_nil.{0},@List.map_cons.{0,0},@List.map_nil.{0,0},@List.getD_cons_zero.{0},@List.getD_cons_succ.{0},@List.getElem?_cons_zero.{0},@List.getElem?_cons_succ.{0},@List.set_cons_zero.{0},@List.set_cons_succ.{0},@List.append_assoc.{0},@List.cons_append.{0},@List.nil_append.{0},@List.length_append.{0},@List.length_cons.{0},@List.length_nil.{0}⟩
theorem stProp:(type_of% @or_false)∧(type_of% @true_or)∧(type_of% @or_true)∧(type_of% @Nat.zero_add)∧(type_of% @Nat.add_zero)∧(type_of% @Nat.mul_one)∧(type_of% @decide_eq_true_eq)∧(type_of% @decide_eq_false_iff_not)∧(type_of% @Bool.not_eq_true')∧(type_of% @Bool.false_eq_true)∧(type_of% @Bool.true_eq_false)∧(type_of% @Bool.not_true)∧(type_of% @Bool.not_false)∧(type_of% @decide_true)∧(type_of% @decide_false)∧(type_of% @Nat.lt_irrefl)∧(type_of% @Nat.zero_le)∧(type_of% @not_true_eq_false)∧(type_of% @true_and)∧(type_of% @and_true)∧(type_of% @and_self)∧(type_of% @not_false_eq_true):=⟨@or_false,@true_or,@or_true,@Nat.zero_add,@Nat.add_zero,@Nat.mul_one,@decide_eq_true_eq,@decide_eq_false_iff_not,@Bool.not_eq_true',@Bool.false_eq_true,@Bool.true_eq_false,@Bool.not_true,@Bool.not_false,@decide_true,@decide_false,@Nat.lt_irrefl,@Nat.zero_le,@not_true_eq_false,@true_and,@and_true,@and_self,@not_false_eq_true⟩
end Go.Sim

namespace Go.Sim
open Go
def dstIn (p:Nat→Bool):Option Tmp→Bool
  | none=>true
  | some d=>p d
def XC.within (p:Nat→Bool):XC→Bool
  | .skip=>true
  | .exit _=>true
  | .ret=>true
  | .seq a b=>a.within p && b.within p
  | .cond _ a b=>a.within p && b.within p
  | .block _ a=>a.within p
  | .loop a=>a.within p
  | .reg l=>l.all fun i=>dstIn p i.dst
  | .range _ _ _ _=>false
def Agree (p:Nat→Bool) (s s':St):Prop:=s'.ds=s.ds∧∀ t,p t=false→s'.env t=s.env t
theorem Agree.refl (p:Nat→Bool) (s:St):Agree p s s:=⟨rfl,fun _ _=>rfl⟩
theorem Agree.trans {p:Nat→Bool} {a b c:St} (h:Agree p a b) (k:Agree p b c):Agree p a c:=⟨k.1.trans h.1,fun t ht=>(k.2 t ht).trans (h.2 t ht)⟩
theorem Agree.put {p:Nat→Bool} {s:St} {d:Option Tmp} {v:Value} (h:dstIn p d=true):Agree p s (s.put d v):=by
  cases d with
  | none=>exact .refl p s
  | some d =>
    refine⟨rfl,fun t ht=>?_⟩
    rw [put_env,if_neg]
    rintro rfl
    rw [show p t=true from h] at ht;cases ht
theorem qh8 {P:Program} {vs:List Value} {H:AH} {R R':Value→AH→Prop} (h:qjd P vs H R) (hr:∀ v H,R v H→R' v H):qjd P vs H R':=by
  unfold qjd at h ⊢
  split at h
  · exact h.mono hr
  · exact⟨h.1,h.2.1,h.2.2.mono hr⟩
  · exact h.elim
theorem qdd {P:Program} {p:Nat→Bool}:∀ (l:List XS) (D:List PL) (s0 s:St) (H:AH) (K:St→AH→Prop),(l.all fun i=>dstIn p i.dst)=true→Agree p s0 s→qbm P l D s H K→qbm P l D s H (fun s' H'=>K s' H'∧Agree p s0 s')
  | [],D,s0,s,H,K,_,ha,h=>⟨h,ha⟩
  | i :: l,D,s0,s,H,K,hp,ha,h=>by
    simp only [List.all_cons,Bool.and_eq_true] at hp
    have hput:=fun v=>ha.trans (Agree.put (p:=p) (s:=s) (v:=v) hp.1)
    unfold qbm at h ⊢
    split at h
    · rename_i hw
      rw [if_pos hw]
      split at h
      · obtain⟨v,h1,h2⟩:=h
        exact⟨v,h1,qdd l _ _ _ _ K hp.2 (hput v) h2⟩
      · obtain⟨sz,v,h0,h1,h2⟩:=h
        exact⟨sz,v,h0,h1,qdd l _ _ _ _ K hp.2 (hput v) h2⟩
      · obtain⟨c,e,mk,h0,h1,h2⟩:=h
        exact⟨c,e,mk,h0,h1,qdd l _ _ _ _ K hp.2 (hput _) h2⟩
      · obtain⟨v,H',h0,h1,h2⟩:=h
        exact⟨v,H',h0,h1,qdd l _ _ _ _ K hp.2 (hput v) h2⟩
      · exact qh8 h fun v H' h=>⟨h.1,qdd l _ _ _ _ K hp.2 (hput v) h.2⟩
    · rename_i hw
      rw [if_neg hw]
      exact qdd l _ _ _ _ K hp.2 (hput _) h
theorem X.frame {P:Program} {n:Nat} {ro:Option Nat} {p:Nat→Bool} (c:XC):∀ {s0 s:St} {H:AH} {Q:AX→St→AH→Prop},c.within p=true→Agree p s0 s→X P n ro c s H Q→X P n ro c s H (fun x s' H'=>Q x s' H'∧Agree p s0 s'):=by
  induction c with
  | skip=>intro s0 s H Q _ ha h;exact⟨h,ha⟩
  | exit id=>intro s0 s H Q _ ha h;exact⟨h,ha⟩
  | ret=>intro s0 s H Q _ ha h;exact⟨h,ha⟩
  | seq a b iha ihb =>
    intro s0 s H Q hw ha h
    simp only [XC.within,Bool.and_eq_true] at hw
    refine X.mono a (iha hw.1 ha h) fun x s1 H1 hx=>?_
    cases x with
    | normal=>exact ihb hw.2 hx.2 hx.1
    | exit id=>exact hx
    | ret=>exact hx
  | cond c a b iha ihb =>
    intro s0 s H Q hw ha h
    simp only [XC.within,Bool.and_eq_true] at hw
    obtain⟨t,h1,h2⟩:=h
    refine⟨t,h1,?_⟩
    cases t with
    | true=>simp only [if_true] at h2 ⊢;exact iha hw.1 ha h2
    | false=>exact ihb hw.2 ha h2
  | block id a ih =>
    intro s0 s H Q hw ha h
    refine X.mono a (ih hw ha h) fun x s1 H1 hx=>?_
    cases x with
    | normal=>exact hx
    | exit i =>
      obtain⟨hx,hy⟩:=hx
      simp only [AX.inBlock] at hx ⊢
      split
      · rename_i e;rw [if_pos e] at hx;exact⟨hx,hy⟩
      · rename_i e;rw [if_neg e] at hx;exact⟨hx,hy⟩
    | ret=>exact hx
  | loop a ih =>
    intro s0 s H Q hw ha h
    obtain⟨I,μ,h0,hr⟩:=h
    refine⟨fun s H=>I s H∧Agree p s0 s,μ,⟨h0,ha⟩,fun s H hI=>X.mono a (ih hw hI.2 (hr s H hI.1)) fun x s1 H1 hx=>?_⟩
    cases x with
    | normal=>exact⟨⟨hx.1.1,hx.2⟩,hx.1.2⟩
    | exit i=>exact hx
    | ret=>exact hx
  | reg l =>
    intro s0 s H Q hw ha h
    exact qdd l _ _ _ _ _ hw ha h
  | range f ps xa xb _ _=>intro s0 s H Q hw;cases hw
inductive XD where
  | skip
  | exit (id:Nat)
  | ret
  | seq (a b:XD)
  | join (live:List Tmp) (mods:Nat) (a b:XD)
  | cond (c:Operand) (a b:XD)
  | block (id:Nat) (a:XD)
  | loop (live:List Tmp) (mods:Nat) (a:XD)
  | reg (l:List XS)
def XD.er:XD→XC
  | .skip=>.skip
  | .exit id=>.exit id
  | .ret=>.ret
  | .seq a b=>.seq a.er b.er
  | .join _ _ a b=>.seq a.er b.er
  | .cond c a b=>.cond c a.er b.er
  | .block id a=>.block id a.er
  | .loop _ _ a=>.loop a.er
  | .reg l=>.reg l
def XD.ok:XD→Bool
  | .seq a b=>a.ok && b.ok
  | .join _ m a b=>a.er.within m.testBit && a.ok && b.ok
  | .cond _ a b=>a.ok && b.ok
  | .block _ a=>a.ok
  | .loop _ m a=>a.er.within m.testBit && a.ok
  | _=>true
def look:List Tmp→List Value→(Nat→Value)→Nat→Value
  | t :: ts,v :: vs,e,x=>bif Nat.beq x t then v else look ts vs e x
  | _,_,e,x=>e x
def havoc (m:Nat) (ρ e:Nat→Value):Nat→Value:=fun t=>bif m.testBit t then ρ t else e t
theorem look_self (e0 e:Nat→Value):∀ (l:List Tmp) (x:Nat),(e0 x=e x)→look l (l.map e) e0 x=e x
  | [],x,h=>h
  | t :: l,x,h=>by
    simp only [List.map_cons,look]
    by_cases hx:x=t
    · subst hx;simp
    · rw [show Nat.beq x t=false by rw [qdt];simp [hx]]
      exact look_self e0 e l x h
theorem look_eq {m:Nat} {s s':St} (h:Agree m.testBit s s') (live:List Tmp):(⟨look live (live.map s'.env) (havoc m s'.env s.env),s.ds⟩:St)=s':=by
  have e:look live (live.map s'.env) (havoc m s'.env s.env)=s'.env:=by
    funext x
    refine look_self _ _ _ _ ?_
    unfold havoc
    cases hb:m.testBit x with
    | true=>rfl
    | false=>exact (h.2 x hb).symm
  rw [e,←h.1]
def allN:(n:Nat)→(List Value→Prop)→Prop
  | 0,p=>p []
  | n+1,p=>∀ x,allN n (fun l=>p (x :: l))
theorem allN_of {p:List Value→Prop}:∀ n,(∀ l,p l)→allN n p
  | 0,h=>h []
  | n+1,h=>fun x=>allN_of n fun l=>h (x :: l)
theorem of_allN:∀ (n:Nat) {p:List Value→Prop},allN n p→∀ l,l.length=n→p l
  | 0,p,h,[],_=>h
  | n+1,p,h,x :: l,hl=>of_allN n (p:=fun l=>p (x :: l)) (h x) l (by simpa using hl)
def un0 (vs:List Value) (p:Prop):Prop:=match vs with
  | []=>p
  | _=>False
theorem un0_of {vs:List Value} {p:Prop} (h:un0 vs p):vs=[]∧p:=by
  unfold un0 at h;split at h
  · exact⟨rfl,h⟩
  · exact h.elim
def un1 (vs:List Value) (f:Value→Prop):Prop:=match vs with
  | [a]=>f a
  | _=>False
def un2 (vs:List Value) (f:Value→Value→Prop):Prop:=match vs with
  | [a,b]=>f a b
  | _=>False
def un3 (vs:List Value) (f:Value→Value→Value→Prop):Prop:=match vs with
  | [a,b,c]=>f a b c
  | _=>False
theorem un1_of {vs:List Value} {f:Value→Prop} (h:un1 vs f):∃ a,vs=[a]∧f a:=by
  unfold un1 at h;split at h
  · exact⟨_,rfl,h⟩
  · exact h.elim
theorem un2_of {vs:List Value} {f:Value→Value→Prop} (h:un2 vs f):∃ a b,vs=[a,b]∧f a b:=by
  unfold un2 at h;split at h
  · exact⟨_,_,rfl,h⟩
  · exact h.elim
theorem un3_of {vs:List Value} {f:Value→Value→Value→Prop} (h:un3 vs f):∃ a b c,vs=[a,b,c]∧f a b c:=by
  unfold un3 at h;split at h
  · exact⟨_,_,_,rfl,h⟩
  · exact h.elim
def chkY (c:List Nat) (D:List PL) (H:AH) (p:Prop):Prop:=match c with
  | []=>p
  | _=>chkX c D H∧p
theorem qf6 {c:List Nat} {D:List PL} {H:AH} {p:Prop} (h:chkY c D H p):chkX c D H∧p:=by
  cases c with
  | nil=>exact⟨by simp [chkX],h⟩
  | cons x l=>exact h
def op2 (P:Program) (i:XS) (D:List PL) (vs:List Value) (H:AH) (k:Value→List PL→AH→Prop):Prop:=
  match i.x with
  | .mov=>un1 vs fun a=>k a D H
  | .pick=>un3 vs fun c a b=>∃ t,c=.bool t∧k (if t then a else b) D H
  | .lenA n=>un1 vs fun _=>k (nv n) D H
  | .bin op m=>un2 vs fun a b=>∃ v,xbin op m a b=some v∧k v D H
  | .un op=>un1 vs fun a=>∃ v,eun op a=some v∧k v D H
  | .bld init pl=>∃ v,qbv init pl vs=some v∧k (.agg v.toArray) D H
  | .ld sz=>match i.keep with
    | true=>∃ v,qbh sz H vs=some v∧k v (⟨i.j,sz,vs,v⟩ :: D) H
    | false=>∃ v,qbh sz H vs=some v∧k v D H
  | .new c e=>un0 vs <| (fun H'=>chkY i.chk D H' (k (.pointer (some ⟨H.length,0,none⟩)) D H')) (H++[.cells c e none false])
  | .box e=>un1 vs fun a=>(fun H'=>chkY i.chk D H' (k (.pointer (some ⟨H.length,0,none⟩)) D H')) (H++[.cells (qbn a) e none false])
  | .make z sz bytes e=>∃ c e' mk,xnew (.make z sz bytes e) vs=some (c,e',mk)∧(fun H'=>chkY i.chk D H' (k (mk H.length) D H')) (H++[.cells c e' none false])
  | .bsl init len pl e=>∃ c,qbv init pl vs=some c∧(fun H'=>chkY i.chk D H' (k (.slice (some ⟨H.length,0,none⟩) len len) D H')) (H++[.cells c e none false])
  | .st sz=>∃ v H',xact (.st sz) H vs=some (v,H')∧chkY i.chk D H' (k v D H')
  | .app e sz bytes=>∃ v H',xact (.app e sz bytes) H vs=some (v,H')∧chkY i.chk D H' (k v D H')
  | .cpy sz=>∃ v H',xact (.cpy sz) H vs=some (v,H')∧chkY i.chk D H' (k v D H')
  | .apz z sz bytes e=>∃ v H',xact (.apz z sz bytes e) H vs=some (v,H')∧chkY i.chk D H' (k v D H')
  | .clr z=>∃ v H',xact (.clr z) H vs=some (v,H')∧chkY i.chk D H' (k v D H')
  | .call=>qjd P vs H fun v H'=>chkY i.chk D H' (k v D H')
  | x=>∃ v,qbc x vs=some v∧k v D H
def qbg (b:Bool) (f:(Value→AH→Prop)→Prop) (H:AH) [k:Kb (Value→AH→Prop)]:Prop:=∀ J:Value→AH→Prop,(∀ v H',k.f v H'→J v H')→if b=true then f J else J undef H
def dl (i:XS) (D:List PL) (b:Bool) (vs:List Value) (v:Value):List PL:=match i.x with
  | .ld sz=>match i.keep with
    | true=>bif b then⟨i.j,sz,vs,v⟩ :: D else D
    | false=>D
  | _=>D
def evE (e:Nat→Value):Operand→Value
  | .tmp t=>e t
  | .const v=>v
  | .func f=>.func (.func f) #[] #[]
  | .global _=>undef
theorem evE_eq (s:St):ev s=evE s.env:=by funext x;cases x<;>rfl
def putE (e:Nat→Value) (d:Option Tmp) (v:Value):Nat→Value:=match d with
  | none=>e
  | some d=>fun t=>bif Nat.beq t d then v else e t
theorem putE_eq (s:St) (d:Option Tmp) (v:Value):s.put d v=⟨putE s.env d v,s.ds⟩:=by
  cases d with
  | none=>rfl
  | some d =>
    have:(s.put (some d) v).env=putE s.env (some d) v:=by
      funext t
      rw [put_env]
      unfold putE
      simp only [qdt]
      by_cases h:t=d<;>simp [h]
    rw [←this];rfl
def steps2 (P:Program):List XS→List PL→(Nat→Value)→AH→((Nat→Value)→AH→Prop)→Prop
  | [],_,s,H,K=>K s H
  | i :: l,D,s,H,K =>
    match i.g with
    | none=>op2 P i D (i.xs.map (evE s)) H fun v D' H'=>steps2 P l D' (putE s i.dst v) H' K
    | some (t,w)=>∀ J:Value→AH→Prop,(∀ v H',steps2 P l (dl i D (bif w then asB (s t) else asNB (s t)) (i.xs.map (evE s)) v) (putE s i.dst v) H' K→J v H') →
        if (bif w then asB (s t) else asNB (s t))=true then op2 P i D (i.xs.map (evE s)) H fun v _ H'=>J v H' else J undef H
def op1 (P:Program) (i:XS) (D:List PL) (vs:List Value) (H:AH) (k:Value→List PL→AH→Prop):Prop:=
  match i.x.kind with
  | .pur=>∃ v,qbc i.x vs=some v∧k v D H
  | .load=>∃ sz v,i.x=.ld sz∧qbh sz H vs=some v∧k v (if i.keep then⟨i.j,sz,vs,v⟩ :: D else D) H
  | .new=>∃ c e mk,xnew i.x vs=some (c,e,mk)∧chkX i.chk D (H++[.cells c e none false])∧k (mk H.length) D (H++[.cells c e none false])
  | .act=>∃ v H',xact i.x H vs=some (v,H')∧chkX i.chk D H'∧k v D H'
  | .call=>qjd P vs H fun v H'=>chkX i.chk D H'∧k v D H'
theorem stepsX_op1 {P:Program} {i:XS} {l:List XS} {D:List PL} {s:St} {H:AH} {K:St→AH→Prop}:qbm P (i :: l) D s H K=if qc5 i.g s then op1 P i D (i.xs.map (ev s)) H (fun v D' H'=>qbm P l D' (s.put i.dst v) H' K) else qbm P l D (s.put i.dst undef) H K:=by
  rw [qbm];rfl
theorem op2_op1 {P:Program} {i:XS} {D:List PL} {vs:List Value} {H:AH} {k k':Value→List PL→AH→Prop} (hk:∀ v D' H,D'=dl i D true vs v→k v D' H→k' v D' H) (h:op2 P i D vs H k):op1 P i D vs H k':=by
  obtain⟨g,x,xs,dst,j,keep,chk⟩:=i
  cases x
  case mov=>obtain⟨a,rfl,h⟩:=un1_of h;exact⟨a,rfl,hk _ _ _ rfl h⟩
  case pick =>
    obtain⟨c,a,b,e1,h1⟩:=un3_of h
    obtain⟨t,e2,h2⟩:=h1
    subst e2
    subst e1
    exact⟨_,rfl,hk _ _ _ rfl h2⟩
  case lenA n=>obtain⟨a,rfl,h⟩:=un1_of h;exact⟨_,rfl,hk _ _ _ rfl h⟩
  case bin op m=>obtain⟨a,b,rfl,v,h1,h⟩:=un2_of h;exact⟨v,h1,hk _ _ _ rfl h⟩
  case un op=>obtain⟨a,rfl,v,h1,h⟩:=un1_of h;exact⟨v,h1,hk _ _ _ rfl h⟩
  case bld init pl =>
    obtain⟨v,h1,h⟩:=h
    refine⟨_,?_,hk _ _ _ rfl h⟩
    unfold qbc
    split
    all_goals first
      | (simp only [h1];rfl)
      | (rename_i h2;cases h2;simp only [h1];rfl)
      | (rename_i h2 _;cases h2;done)
      | skip
    all_goals simp_all
  case ld sz =>
    cases keep with
    | true =>
      obtain⟨v,h1,h⟩:=h
      exact⟨sz,v,rfl,h1,hk _ _ _ rfl h⟩
    | false =>
      obtain⟨v,h1,h⟩:=h
      exact⟨sz,v,rfl,h1,hk _ _ _ rfl h⟩
  case new c e =>
    obtain⟨rfl,h⟩:=un0_of h
    obtain⟨h1,h2⟩:=qf6 h
    exact⟨c,e,mkPtr,rfl,h1,hk _ _ _ rfl h2⟩
  case box e =>
    obtain⟨a,rfl,h⟩:=un1_of h
    obtain⟨h1,h2⟩:=qf6 h
    exact⟨_,e,mkPtr,rfl,h1,hk _ _ _ rfl h2⟩
  case make z sz bytes e =>
    obtain⟨c,e',mk,h0,h⟩:=h
    obtain⟨h1,h2⟩:=qf6 h
    exact⟨c,e',mk,h0,h1,hk _ _ _ rfl h2⟩
  case bsl init len pl e =>
    obtain⟨c,h0,h⟩:=h
    obtain⟨h1,h2⟩:=qf6 h
    refine⟨c,e,mkSl len len,?_,h1,hk _ _ _ rfl h2⟩
    unfold xnew
    split
    all_goals simp_all
  case st sz =>
    obtain⟨v,H',h0,h⟩:=h
    obtain⟨h1,h2⟩:=qf6 h
    exact⟨v,H',h0,h1,hk _ _ _ rfl h2⟩
  case app e sz bytes =>
    obtain⟨v,H',h0,h⟩:=h
    obtain⟨h1,h2⟩:=qf6 h
    exact⟨v,H',h0,h1,hk _ _ _ rfl h2⟩
  case cpy sz =>
    obtain⟨v,H',h0,h⟩:=h
    obtain⟨h1,h2⟩:=qf6 h
    exact⟨v,H',h0,h1,hk _ _ _ rfl h2⟩
  case apz z sz bytes e =>
    obtain⟨v,H',h0,h⟩:=h
    obtain⟨h1,h2⟩:=qf6 h
    exact⟨v,H',h0,h1,hk _ _ _ rfl h2⟩
  case clr z =>
    obtain⟨v,H',h0,h⟩:=h
    obtain⟨h1,h2⟩:=qf6 h
    exact⟨v,H',h0,h1,hk _ _ _ rfl h2⟩
  case call=>exact qh8 h fun v H' h=>let ⟨h1,h2⟩:=qf6 h;⟨h1,hk _ _ _ rfl h2⟩
  all_goals (obtain⟨v,h1,h⟩:=h;exact⟨v,h1,hk _ _ _ rfl h⟩)
theorem dl_false (i:XS) (D:List PL) (vs:List Value) (v:Value):dl i D false vs v=D:=by
  unfold dl
  split
  · cases i.keep<;>rfl
  · rfl
theorem qmx {P:Program}:∀ (l:List XS) (D:List PL) (s:St) (H:AH) (K:St→AH→Prop),steps2 P l D s.env H (fun e H'=>K ⟨e,s.ds⟩ H')→qbm P l D s H K
  | [],_,_,_,_,h=>h
  | i :: l,D,s,H,K,h=>by
    have ih:∀ v D' H',steps2 P l D' (putE s.env i.dst v) H' (fun e H'=>K ⟨e,s.ds⟩ H')→qbm P l D' (s.put i.dst v) H' K:=by
      intro v D' H' h
      rw [putE_eq]
      exact qmx l D' ⟨putE s.env i.dst v,s.ds⟩ H' K h
    rw [stepsX_op1,evE_eq]
    unfold steps2 at h
    split at h
    · rename_i hg
      rw [hg,if_pos (show qc5 none s=true from rfl)]
      exact op2_op1 (fun v D' H' _ h=>ih _ _ _ h) h
    · rename_i t w hg
      have hw:qc5 i.g s=(bif w then asB (s.env t) else asNB (s.env t)):=by
        rw [hg]
        cases w
        · exact qp6
        · exact wantX_true
      rw [←hw] at h
      have h':=h _ (fun _ _ h=>h)
      split
      · rename_i hwt
        rw [if_pos hwt] at h'
        rw [hwt] at h'
        exact op2_op1 (fun v D' H' e h=>by rw [e];exact ih _ _ _ h) h'
      · rename_i hwt
        rw [if_neg hwt] at h'
        rw [show qc5 i.g s=false by simpa using hwt,dl_false] at h'
        exact ih _ _ _ h'
def X2 (P:Program):XD→St→AH→(AX→St→AH→Prop)→Prop
  | .skip,s,H,Q=>Q .normal s H
  | .exit id,s,H,Q=>Q (.exit id) s H
  | .ret,s,H,Q=>Q .ret s H
  | .seq a b,s,H,Q=>X2 P a s H (AX.then (fun s H=>X2 P b s H Q) Q)
  | .join live m a b,s,H,Q=>∀ J:List Value→AH→Prop,allN live.length (fun vs=>∀ H,((ρ:Nat→Value)→X2 P b ⟨look live vs (havoc m ρ s.env),s.ds⟩ H Q)→J vs H) →
      X2 P a s H (AX.then (fun s' H'=>J (live.map s'.env) H') Q)
  | .cond c a b,s,H,Q=>∃ t,evE s.env c=.bool t∧if t=true then X2 P a s H Q else X2 P b s H Q
  | .block id a,s,H,Q=>X2 P a s H (AX.inBlock id Q)
  | .loop live m a,s,H,Q=>∃ (I:List Value→AH→Prop) (μ:List Value→AH→Nat),I (live.map s.env) H ∧
      allN live.length (fun vs=>∀ (ρ:Nat→Value) H,I vs H→∀ J:List Value→AH→Prop,(∀ vs' H',I vs' H'∧μ vs' H'<μ vs H→J vs' H') →
        X2 P a ⟨look live vs (havoc m ρ s.env),s.ds⟩ H (AX.then (fun s' H'=>J (live.map s'.env) H') Q))
  | .reg l,s,H,Q=>steps2 P l [] s.env H (fun e H'=>Q .normal ⟨e,s.ds⟩ H')
theorem X2_sound {P:Program} {n:Nat} {ro:Option Nat} (c:XD):∀ {s:St} {H:AH} {Q:AX→St→AH→Prop},c.ok=true→X2 P c s H Q→X P n ro c.er s H Q:=by
  induction c with
  | skip=>intro s H Q _ h;exact h
  | exit id=>intro s H Q _ h;exact h
  | ret=>intro s H Q _ h;exact h
  | seq a b iha ihb =>
    intro s H Q ho h
    simp only [XD.ok,Bool.and_eq_true] at ho
    refine X.mono a.er (iha ho.1 h) fun x s1 H1 hx=>?_
    cases x with
    | normal=>exact ihb ho.2 hx
    | exit id=>exact hx
    | ret=>exact hx
  | join live m a b iha ihb =>
    intro s H Q ho h
    simp only [XD.ok,Bool.and_eq_true] at ho
    have h1:=h (fun vs H=>(ρ:Nat→Value)→X2 P b ⟨look live vs (havoc m ρ s.env),s.ds⟩ H Q) (allN_of _ fun vs H h=>h)
    refine X.mono a.er (X.frame a.er ho.1.1 (Agree.refl _ s) (iha ho.1.2 h1)) fun x s1 H1 hx=>?_
    obtain⟨hx,ha⟩:=hx
    cases x with
    | normal =>
      have h2:=hx s1.env
      rw [look_eq ha] at h2
      exact ihb ho.2 h2
    | exit id=>exact hx
    | ret=>exact hx
  | cond c a b iha ihb =>
    intro s H Q ho h
    simp only [XD.ok,Bool.and_eq_true] at ho
    obtain⟨t,h1,h2⟩:=h
    rw [←evE_eq] at h1
    refine⟨t,h1,?_⟩
    cases t with
    | true=>simp only [if_true] at h2 ⊢;exact iha ho.1 h2
    | false=>exact ihb ho.2 h2
  | block id a ih=>intro s H Q ho h;exact ih ho h
  | loop live m a ih =>
    intro s H Q ho h
    simp only [XD.ok,Bool.and_eq_true] at ho
    obtain⟨I,μ,h0,hr⟩:=h
    refine⟨fun s' H'=>I (live.map s'.env) H'∧Agree m.testBit s s',fun s' H'=>μ (live.map s'.env) H',⟨h0,.refl _ s⟩,fun s1 H1 hI=>?_⟩
    have h1:=of_allN _ hr (live.map s1.env) (by simp) s1.env H1 hI.1 (fun vs' H'=>I vs' H'∧μ vs' H'<μ (live.map s1.env) H1) (fun vs' H' h=>h)
    rw [look_eq hI.2] at h1
    refine X.mono a.er (X.frame a.er ho.1 hI.2 (ih ho.2 h1)) fun x s2 H2 hx=>?_
    cases x with
    | normal=>exact⟨⟨hx.1.1,hx.2⟩,hx.1.2⟩
    | exit id=>exact hx.1
    | ret=>exact hx.1
  | reg l=>intro s H Q _ h;exact qmx l _ _ _ _ h
def resY (H:AH) (env:Nat→Value):List XRes→(List Value→Prop)→Prop
  | [],k=>k []
  | .tmp t :: l,k=>resY H env l fun vs=>k (env t :: vs)
  | .cell a sz :: l,k=>∃ v,qbh sz H [env a]=some v∧resY H env l fun vs=>k (v :: vs)
def tupY:List Value→Value
  | [v]=>v
  | vs=>.tuple vs.toArray
def bodyY (res:List XRes) (R:Value→AH→Prop):AX→St→AH→Prop
  | .exit _,_,_=>False
  | _,s,H=>resY H s.env res fun vs=>R (tupY vs) H
theorem resY_of {H:AH} {s:St}:∀ (l:List XRes) {k:List Value→Prop},resY H s.env l k→∃ vs,l.mapM (xres H s)=some vs∧k vs
  | [],k,h=>⟨[],rfl,h⟩
  | .tmp t :: l,k,h=>by
    obtain⟨vs,h1,h2⟩:=resY_of l h
    exact⟨_,by simp [h1,xres],h2⟩
  | .cell a sz :: l,k,h=>by
    obtain⟨v,h0,h⟩:=h
    obtain⟨vs,h1,h2⟩:=resY_of l h
    exact⟨_,by simp [h1,xres,h0],h2⟩
theorem XD.within_er {p:Nat→Bool} (hp:∀ t,p t=true) (c:XD):c.er.within p=true:=by
  induction c with
  | seq a b iha ihb=>simp [XD.er,XC.within,iha,ihb]
  | join _ _ a b iha ihb=>simp [XD.er,XC.within,iha,ihb]
  | cond _ a b iha ihb=>simp [XD.er,XC.within,iha,ihb]
  | block _ a ih=>simpa [XD.er,XC.within] using ih
  | loop _ _ a ih=>simpa [XD.er,XC.within] using ih
  | reg l =>
    simp only [XD.er,XC.within,List.all_eq_true]
    intro i _
    cases i.dst<;>simp [dstIn,hp]
  | _=>rfl
theorem FN.of_XD {P:Program} (hm:P.follows .mixedOrders=true) {f:FuncId} {n:Nat} {xd:XD} {res:List XRes} (hf:qb3 P f=some ⟨n,res,xd.er⟩) (ho:xd.ok=true) {args:List Value} {H:AH} {R:Value→AH→Prop} (hn:args.length≤n)
    (h:X2 P xd ⟨env0 args,[]⟩ H (bodyY res R)):FN P f args H R:=by
  refine FN.of_comp hm hf hn (X.mono xd.er (X.frame (p:=fun _=>true) xd.er (XD.within_er (fun _=>rfl) xd) (Agree.refl _ _) (X2_sound xd ho h)) fun x s H' hx=>?_)
  obtain⟨hx,ha⟩:=hx
  have key:resY H' s.env res (fun vs=>R (tupY vs) H')→∃ H'' v,unwA s.ds H'=some H''∧qf8 H'' s res=some v∧R v H'':=by
    intro h
    obtain⟨vs,h1,h2⟩:=resY_of res h
    refine⟨H',tupY vs,by rw [ha.1];rfl,?_,h2⟩
    unfold qf8
    rw [h1]
    rcases vs with _|⟨a,_|⟨b,l⟩⟩<;>rfl
  cases x with
  | exit id=>exact hx
  | normal=>exact key hx
  | ret=>exact key hx
end Go.Sim

namespace Go.Sim
open Go
def oC (v:Value):Operand:=.const v
def letD (D:List PL) [k:Kb (List PL→Prop)]:Prop:=k.f D
theorem letD_eq {D:List PL} {k:List PL→Prop}:@letD D ⟨k⟩=k D:=_root_.id rfl
theorem qnk {f:(Value→AH→Prop)→Prop} {H:AH} {r:Value→AH→Prop}:@qbg false f H ⟨r⟩=r undef H:=by
  apply propext
  constructor
  · intro h;exact h r fun _ _ h=>h
  · intro h J hJ;exact hJ _ _ h
theorem qb2 {f:(Value→AH→Prop)→Prop} {H:AH} {r:Value→AH→Prop} (hm:∀ J,(∀ v H,r v H→J v H)→f r→f J):@qbg true f H ⟨r⟩=f r:=by
  apply propext
  constructor
  · intro h;exact h r fun _ _ h=>h
  · intro h J hJ;exact hm J hJ h
theorem guardJ_V {a:Value} {H H':AH} {r:Value→AH→Prop}:@qbg true (fun J=>J a H') H ⟨r⟩=r a H':=qb2 fun _ hJ h=>hJ _ _ h
theorem guardJ_O {o:Option Value} {H H':AH} {r:Value→AH→Prop}:@qbg true (fun J=>@qbb o ⟨fun v=>J v H'⟩) H ⟨r⟩=@qbb o ⟨fun v=>r v H'⟩:=qb2 fun _ hJ ⟨v,e,h⟩=>⟨v,e,hJ _ _ h⟩
theorem guardJ_P {o:Option (Value×AH)} {H:AH} {r:Value→AH→Prop}:@qbg true (fun J=>@qbt o ⟨fun v H'=>J v H'⟩) H ⟨r⟩=@qbt o ⟨fun v H'=>r v H'⟩:=qb2 fun _ hJ ⟨v,H1,e,h⟩=>⟨v,H1,e,hJ _ _ h⟩
theorem guardJ_K {c a b:Value} {H H':AH} {r:Value→AH→Prop}:@qbg true (fun J=>@qb1 c a b ⟨fun v=>J v H'⟩) H ⟨r⟩=@qb1 c a b ⟨fun v=>r v H'⟩:=qb2 fun _ hJ ⟨v,e,h⟩=>⟨v,e,hJ _ _ h⟩
theorem guardJ_H {a:Value} {H H1:AH} {r:Value→AH→Prop}:@qbg true (fun J=>@letH H1 ⟨fun H'=>J a H'⟩) H ⟨r⟩=@letH H1 ⟨fun H'=>r a H'⟩:=qb2 fun _ hJ h=>hJ _ _ h
theorem guardJ_LB {o:Option (List Value)} {F:List Value→Value} {H H':AH} {r:Value→AH→Prop}:@qbg true (fun J=>@qb5 o ⟨fun v=>J (F v) H'⟩) H ⟨r⟩=@qb5 o ⟨fun v=>r (F v) H'⟩:=qb2 fun _ hJ ⟨v,e,h⟩=>⟨v,e,hJ _ _ h⟩
theorem guardJ_LH {o:Option (List Value)} {F:List Value→AH} {a:Value} {H:AH} {r:Value→AH→Prop}:@qbg true (fun J=>@qb5 o ⟨fun c=>@letH (F c) ⟨fun H'=>J a H'⟩⟩) H ⟨r⟩=@qb5 o ⟨fun c=>@letH (F c) ⟨fun H'=>r a H'⟩⟩:=qb2 fun _ hJ ⟨v,e,h⟩=>⟨v,e,hJ _ _ h⟩
theorem guardJ_C {P:Program} {vs:List Value} {H H':AH} {r:Value→AH→Prop}:@qbg true (fun J=>@qjc P vs H' ⟨fun v H1=>J v H1⟩) H ⟨r⟩=@qjc P vs H' ⟨fun v H1=>r v H1⟩:=qb2 fun _ hJ h=>qh8 h fun _ _ h=>hJ _ _ h
theorem guardJ_CC {P:Program} {vs:List Value} {H H':AH} {p:AH→Prop} {r:Value→AH→Prop}:@qbg true (fun J=>@qjc P vs H' ⟨fun v H1=>p H1∧J v H1⟩) H ⟨r⟩=@qjc P vs H' ⟨fun v H1=>p H1∧r v H1⟩:=qb2 fun _ hJ h=>qh8 h fun _ _ h=>⟨h.1,hJ _ _ h.2⟩
theorem guardJ_F {P:Program} {g:FuncId} {vs:List Value} {H H':AH} {r:Value→AH→Prop}:@qbg true (fun J=>@FZ P g vs H' ⟨fun v H1=>J v H1⟩) H ⟨r⟩=@FZ P g vs H' ⟨fun v H1=>r v H1⟩:=qb2 fun _ hJ h=>FN.mono h fun _ _ h=>hJ _ _ h
theorem guardJ_FF {P:Program} {g:FuncId} {vs:List Value} {H H':AH} {p:AH→Prop} {r:Value→AH→Prop}:@qbg true (fun J=>@FZ P g vs H' ⟨fun v H1=>p H1∧J v H1⟩) H ⟨r⟩=@FZ P g vs H' ⟨fun v H1=>p H1∧r v H1⟩:=qb2 fun _ hJ h=>FN.mono h fun _ _ h=>⟨h.1,hJ _ _ h.2⟩
open Classical in
theorem loopL_ind {init:List Value} {H:AH} {body:List Value→AH→(List Value→AH→Prop)→Prop} (I:Nat→List Value→AH→Prop) (m:Nat) (h0:I m init H)
    (hr:∀ m vs H,I m vs H→∀ J:List Value→AH→Prop,(∀ vs' H',(∃ m',m'<m∧I m' vs' H')→J vs' H')→body vs H J) :
    ∃ (I:List Value→AH→Prop) (μ:List Value→AH→Nat),I init H∧∀ vs H,I vs H→∀ J:List Value→AH→Prop,(∀ vs' H',I vs' H'∧μ vs' H'<μ vs H→J vs' H')→body vs H J:=by
  refine⟨fun s H=>∃ m,I m s H,fun s H=>if h:∃ m,I m s H then Classical.choose (least (fun m=>I m s H) (Classical.choose h) (Classical.choose_spec h)) else 0,⟨m,h0⟩,fun s H hI J hJ=>?_⟩
  have hl:=Classical.choose_spec (least (fun m=>I m s H) (Classical.choose hI) (Classical.choose_spec hI))
  refine hr _ s H hl.1 J ?_
  rintro s' H' ⟨m',h1,h2⟩
  refine hJ s' H' ⟨⟨m',h2⟩,?_⟩
  have hI':∃ m,I m s' H':=⟨m',h2⟩
  have hl':=Classical.choose_spec (least (fun m=>I m s' H') (Classical.choose hI') (Classical.choose_spec hI'))
  simp only [dif_pos hI,dif_pos hI']
  refine Nat.lt_of_le_of_lt ?_ h1
  refine Nat.le_of_not_lt fun hlt=>?_
  exact hl'.2 m' hlt h2
def joinV0 (first:(AH→Prop)→Prop) [k:Kb (AH→Prop)]:Prop:=∀ J:List Value→AH→Prop,(∀ H,((Nat→Value)→k.f H)→J [] H)→first (fun H=>J [] H)
theorem qnh {H:AH} {r:AH→Prop}:@joinV0 (fun J=>J H) ⟨r⟩=r H:=by
  apply propext
  constructor
  · intro h;exact h (fun vs H=>r H) (fun H h=>h (fun _=>undef))
  · intro h J hJ;exact hJ _ (fun _=>h)
theorem joinV0.intro {first:(AH→Prop)→Prop} {r:AH→Prop} (h:∀ J:AH→Prop,(∀ H,r H→J H)→first J):@joinV0 first ⟨r⟩:=by
  intro J hJ
  exact h _ fun H h=>hJ H fun _=>h
def joinV1 (first:(Value→AH→Prop)→Prop) [k:Kb (Value→AH→Prop)]:Prop:=∀ J:List Value→AH→Prop,(∀ x0:Value,∀ H,((Nat→Value)→k.f x0 H)→J [x0] H)→first (fun x0 H=>J [x0] H)
theorem qng {a0:Value} {H:AH} {r:Value→AH→Prop}:@joinV1 (fun J=>J a0 H) ⟨r⟩=r a0 H:=by
  apply propext
  constructor
  · intro h;exact h (fun vs H=>r (vs.getD 0 undef) H) (fun x0 H h=>h (fun _=>undef))
  · intro h J hJ;exact hJ _ _ (fun _=>h)
theorem joinV1.intro {first:(Value→AH→Prop)→Prop} {r:Value→AH→Prop} (h:∀ J:Value→AH→Prop,(∀ x0:Value,∀ H,r x0 H→J x0 H)→first J):@joinV1 first ⟨r⟩:=by
  intro J hJ
  exact h _ fun x0 H h=>hJ x0 H fun _=>h
def loopV1 (a0:Value) (H:AH) [k:Kb (Value→AH→(Value→AH→Prop)→Prop)]:Prop:=∃ (I:List Value→AH→Prop) (μ:List Value→AH→Nat),I [a0] H∧∀ x0:Value,∀ (_ρ:Nat→Value) H,I [x0] H→∀ J:List Value→AH→Prop,(∀ vs' H',I vs' H'∧μ vs' H'<μ [x0] H→J vs' H')→k.f x0 H (fun x0 H=>J [x0] H)
theorem loopV1.ind {a0:Value} {H:AH} {body:Value→AH→(Value→AH→Prop)→Prop} (I:Nat→Value→AH→Prop) (m:Nat) (h0:I m a0 H) (hr:∀ (m:Nat) (x0:Value) (H:AH),I m x0 H→∀ J:Value→AH→Prop,(∀ (y0:Value) (H':AH),(∃ m',m'<m∧I m' y0 H')→J y0 H')→body x0 H J):@loopV1 a0 H ⟨body⟩:=by
  obtain⟨I',μ,q0,qr⟩:=loopL_ind (init:=[a0]) (H:=H) (body:=fun vs H J=>body (vs.getD 0 undef) H (fun x0 H=>J [x0] H)) (fun m vs H=>I m (vs.getD 0 undef) H) m h0
    (fun m vs H hI J hJ=>hr m _ H hI _ fun y0 H' h=>hJ [y0] H' h)
  exact⟨I',μ,q0,fun x0 _ H hI J hJ=>qr [x0] H hI J hJ⟩
theorem loopV1.nat {a0:Value} {H:AH} {body:Value→AH→(Value→AH→Prop)→Prop} (N:Nat) (I:Nat→Value→AH→Prop) (h0:I 0 a0 H) (hr:∀ (k:Nat) (x0:Value) (H:AH),k<N→I k x0 H→∀ J:Value→AH→Prop,(∀ (y0:Value) (H':AH),I (k+1) y0 H'→J y0 H')→body x0 H J)
    (hN:∀ (x0:Value) (H:AH),I N x0 H→∀ J:Value→AH→Prop,body x0 H J):@loopV1 a0 H ⟨body⟩:=by
  refine loopV1.ind (fun m x0 H=>∃ k,k+m=N∧I k x0 H) N ⟨0,by omega,h0⟩ fun m x0 H ⟨k,hk,hI⟩ J hJ=>?_
  cases m with
  | zero =>
    have:k=N:=by omega
    subst this
    exact hN x0 H hI J
  | succ m=>exact hr k x0 H (by omega) hI J fun y0 H' h=>hJ y0 H' ⟨m,by omega,k+1,by omega,h⟩
def joinV2 (first:(Value→Value→AH→Prop)→Prop) [k:Kb (Value→Value→AH→Prop)]:Prop:=∀ J:List Value→AH→Prop,(∀ x0 x1:Value,∀ H,((Nat→Value)→k.f x0 x1 H)→J [x0,x1] H)→first (fun x0 x1 H=>J [x0,x1] H)
theorem qnf {a0 a1:Value} {H:AH} {r:Value→Value→AH→Prop}:@joinV2 (fun J=>J a0 a1 H) ⟨r⟩=r a0 a1 H:=by
  apply propext
  constructor
  · intro h;exact h (fun vs H=>r (vs.getD 0 undef) (vs.getD 1 undef) H) (fun x0 x1 H h=>h (fun _=>undef))
  · intro h J hJ;exact hJ _ _ _ (fun _=>h)
def loopV2 (a0 a1:Value) (H:AH) [k:Kb (Value→Value→AH→(Value→Value→AH→Prop)→Prop)]:Prop:=∃ (I:List Value→AH→Prop) (μ:List Value→AH→Nat),I [a0,a1] H∧∀ x0 x1:Value,∀ (_ρ:Nat→Value) H,I [x0,x1] H→∀ J:List Value→AH→Prop,(∀ vs' H',I vs' H'∧μ vs' H'<μ [x0,x1] H→J vs' H')→k.f x0 x1 H (fun x0 x1 H=>J [x0,x1] H)
theorem loopV2.ind {a0 a1:Value} {H:AH} {body:Value→Value→AH→(Value→Value→AH→Prop)→Prop} (I:Nat→Value→Value→AH→Prop) (m:Nat) (h0:I m a0 a1 H) (hr:∀ (m:Nat) (x0 x1:Value) (H:AH),I m x0 x1 H→∀ J:Value→Value→AH→Prop,(∀ (y0 y1:Value) (H':AH),(∃ m',m'<m∧I m' y0 y1 H')→J y0 y1 H')→body x0 x1 H J):@loopV2 a0 a1 H ⟨body⟩:=by
  obtain⟨I',μ,q0,qr⟩:=loopL_ind (init:=[a0,a1]) (H:=H) (body:=fun vs H J=>body (vs.getD 0 undef) (vs.getD 1 undef) H (fun x0 x1 H=>J [x0,x1] H)) (fun m vs H=>I m (vs.getD 0 undef) (vs.getD 1 undef) H) m h0
    (fun m vs H hI J hJ=>hr m _ _ H hI _ fun y0 y1 H' h=>hJ [y0,y1] H' h)
  exact⟨I',μ,q0,fun x0 x1 _ H hI J hJ=>qr [x0,x1] H hI J hJ⟩
theorem loopV2.nat {a0 a1:Value} {H:AH} {body:Value→Value→AH→(Value→Value→AH→Prop)→Prop} (N:Nat) (I:Nat→Value→Value→AH→Prop) (h0:I 0 a0 a1 H) (hr:∀ (k:Nat) (x0 x1:Value) (H:AH),k<N→I k x0 x1 H→∀ J:Value→Value→AH→Prop,(∀ (y0 y1:Value) (H':AH),I (k+1) y0 y1 H'→J y0 y1 H')→body x0 x1 H J)
    (hN:∀ (x0 x1:Value) (H:AH),I N x0 x1 H→∀ J:Value→Value→AH→Prop,body x0 x1 H J):@loopV2 a0 a1 H ⟨body⟩:=by
  refine loopV2.ind (fun m x0 x1 H=>∃ k,k+m=N∧I k x0 x1 H) N ⟨0,by omega,h0⟩ fun m x0 x1 H ⟨k,hk,hI⟩ J hJ=>?_
  cases m with
  | zero =>
    have:k=N:=by omega
    subst this
    exact hN x0 x1 H hI J
  | succ m=>exact hr k x0 x1 H (by omega) hI J fun y0 y1 H' h=>hJ y0 y1 H' ⟨m,by omega,k+1,by omega,h⟩
def joinV3 (first:(Value→Value→Value→AH→Prop)→Prop) [k:Kb (Value→Value→Value→AH→Prop)]:Prop:=∀ J:List Value→AH→Prop,(∀ x0 x1 x2:Value,∀ H,((Nat→Value)→k.f x0 x1 x2 H)→J [x0,x1,x2] H)→first (fun x0 x1 x2 H=>J [x0,x1,x2] H)
theorem qnd {a0 a1 a2:Value} {H:AH} {r:Value→Value→Value→AH→Prop}:@joinV3 (fun J=>J a0 a1 a2 H) ⟨r⟩=r a0 a1 a2 H:=by
  apply propext
  constructor
  · intro h;exact h (fun vs H=>r (vs.getD 0 undef) (vs.getD 1 undef) (vs.getD 2 undef) H) (fun x0 x1 x2 H h=>h (fun _=>undef))
  · intro h J hJ;exact hJ _ _ _ _ (fun _=>h)
def loopV3 (a0 a1 a2:Value) (H:AH) [k:Kb (Value→Value→Value→AH→(Value→Value→Value→AH→Prop)→Prop)]:Prop:=∃ (I:List Value→AH→Prop) (μ:List Value→AH→Nat),I [a0,a1,a2] H∧∀ x0 x1 x2:Value,∀ (_ρ:Nat→Value) H,I [x0,x1,x2] H→∀ J:List Value→AH→Prop,(∀ vs' H',I vs' H'∧μ vs' H'<μ [x0,x1,x2] H→J vs' H')→k.f x0 x1 x2 H (fun x0 x1 x2 H=>J [x0,x1,x2] H)
def joinV4 (first:(Value→Value→Value→Value→AH→Prop)→Prop) [k:Kb (Value→Value→Value→Value→AH→Prop)]:Prop:=∀ J:List Value→AH→Prop,(∀ x0 x1 x2 x3:Value,∀ H,((Nat→Value)→k.f x0 x1 x2 x3 H)→J [x0,x1,x2,x3] H)→first (fun x0 x1 x2 x3 H=>J [x0,x1,x2,x3] H)
theorem qnc {a0 a1 a2 a3:Value} {H:AH} {r:Value→Value→Value→Value→AH→Prop}:@joinV4 (fun J=>J a0 a1 a2 a3 H) ⟨r⟩=r a0 a1 a2 a3 H:=by
  apply propext
  constructor
  · intro h;exact h (fun vs H=>r (vs.getD 0 undef) (vs.getD 1 undef) (vs.getD 2 undef) (vs.getD 3 undef) H) (fun x0 x1 x2 x3 H h=>h (fun _=>undef))
  · intro h J hJ;exact hJ _ _ _ _ _ (fun _=>h)
def joinV5 (first:(Value→Value→Value→Value→Value→AH→Prop)→Prop) [k:Kb (Value→Value→Value→Value→Value→AH→Prop)]:Prop:=∀ J:List Value→AH→Prop,(∀ x0 x1 x2 x3 x4:Value,∀ H,((Nat→Value)→k.f x0 x1 x2 x3 x4 H)→J [x0,x1,x2,x3,x4] H)→first (fun x0 x1 x2 x3 x4 H=>J [x0,x1,x2,x3,x4] H)
theorem qnb {a0 a1 a2 a3 a4:Value} {H:AH} {r:Value→Value→Value→Value→Value→AH→Prop}:@joinV5 (fun J=>J a0 a1 a2 a3 a4 H) ⟨r⟩=r a0 a1 a2 a3 a4 H:=by
  apply propext
  constructor
  · intro h;exact h (fun vs H=>r (vs.getD 0 undef) (vs.getD 1 undef) (vs.getD 2 undef) (vs.getD 3 undef) (vs.getD 4 undef) H) (fun x0 x1 x2 x3 x4 H h=>h (fun _=>undef))
  · intro h J hJ;exact hJ _ _ _ _ _ _ (fun _=>h)
def joinV6 (first:(Value→Value→Value→Value→Value→Value→AH→Prop)→Prop) [k:Kb (Value→Value→Value→Value→Value→Value→AH→Prop)]:Prop:=∀ J:List Value→AH→Prop,(∀ x0 x1 x2 x3 x4 x5:Value,∀ H,((Nat→Value)→k.f x0 x1 x2 x3 x4 x5 H)→J [x0,x1,x2,x3,x4,x5] H)→first (fun x0 x1 x2 x3 x4 x5 H=>J [x0,x1,x2,x3,x4,x5] H)
theorem qm9 {a0 a1 a2 a3 a4 a5:Value} {H:AH} {r:Value→Value→Value→Value→Value→Value→AH→Prop}:@joinV6 (fun J=>J a0 a1 a2 a3 a4 a5 H) ⟨r⟩=r a0 a1 a2 a3 a4 a5 H:=by
  apply propext
  constructor
  · intro h;exact h (fun vs H=>r (vs.getD 0 undef) (vs.getD 1 undef) (vs.getD 2 undef) (vs.getD 3 undef) (vs.getD 4 undef) (vs.getD 5 undef) H) (fun x0 x1 x2 x3 x4 x5 H h=>h (fun _=>undef))
  · intro h J hJ;exact hJ _ _ _ _ _ _ _ (fun _=>h)
def joinV7 (first:(Value→Value→Value→Value→Value→Value→Value→AH→Prop)→Prop) [k:Kb (Value→Value→Value→Value→Value→Value→Value→AH→Prop)]:Prop:=∀ J:List Value→AH→Prop,(∀ x0 x1 x2 x3 x4 x5 x6:Value,∀ H,((Nat→Value)→k.f x0 x1 x2 x3 x4 x5 x6 H)→J [x0,x1,x2,x3,x4,x5,x6] H)→first (fun x0 x1 x2 x3 x4 x5 x6 H=>J [x0,x1,x2,x3,x4,x5,x6] H)
theorem qm8 {a0 a1 a2 a3 a4 a5 a6:Value} {H:AH} {r:Value→Value→Value→Value→Value→Value→Value→AH→Prop}:@joinV7 (fun J=>J a0 a1 a2 a3 a4 a5 a6 H) ⟨r⟩=r a0 a1 a2 a3 a4 a5 a6 H:=by
  apply propext
  constructor
  · intro h;exact h (fun vs H=>r (vs.getD 0 undef) (vs.getD 1 undef) (vs.getD 2 undef) (vs.getD 3 undef) (vs.getD 4 undef) (vs.getD 5 undef) (vs.getD 6 undef) H) (fun x0 x1 x2 x3 x4 x5 x6 H h=>h (fun _=>undef))
  · intro h J hJ;exact hJ _ _ _ _ _ _ _ _ (fun _=>h)
def joinV8 (first:(Value→Value→Value→Value→Value→Value→Value→Value→AH→Prop)→Prop) [k:Kb (Value→Value→Value→Value→Value→Value→Value→Value→AH→Prop)]:Prop:=∀ J:List Value→AH→Prop,(∀ x0 x1 x2 x3 x4 x5 x6 x7:Value,∀ H,((Nat→Value)→k.f x0 x1 x2 x3 x4 x5 x6 x7 H)→J [x0,x1,x2,x3,x4,x5,x6,x7] H)→first (fun x0 x1 x2 x3 x4 x5 x6 x7 H=>J [x0,x1,x2,x3,x4,x5,x6,x7] H)
theorem qm7 {a0 a1 a2 a3 a4 a5 a6 a7:Value} {H:AH} {r:Value→Value→Value→Value→Value→Value→Value→Value→AH→Prop}:@joinV8 (fun J=>J a0 a1 a2 a3 a4 a5 a6 a7 H) ⟨r⟩=r a0 a1 a2 a3 a4 a5 a6 a7 H:=by
  apply propext
  constructor
  · intro h;exact h (fun vs H=>r (vs.getD 0 undef) (vs.getD 1 undef) (vs.getD 2 undef) (vs.getD 3 undef) (vs.getD 4 undef) (vs.getD 5 undef) (vs.getD 6 undef) (vs.getD 7 undef) H) (fun x0 x1 x2 x3 x4 x5 x6 x7 H h=>h (fun _=>undef))
  · intro h J hJ;exact hJ _ _ _ _ _ _ _ _ _ (fun _=>h)
def joinV9 (first:(Value→Value→Value→Value→Value→Value→Value→Value→Value→AH→Prop)→Prop) [k:Kb (Value→Value→Value→Value→Value→Value→Value→Value→Value→AH→Prop)]:Prop:=∀ J:List Value→AH→Prop,(∀ x0 x1 x2 x3 x4 x5 x6 x7 x8:Value,∀ H,((Nat→Value)→k.f x0 x1 x2 x3 x4 x5 x6 x7 x8 H)→J [x0,x1,x2,x3,x4,x5,x6,x7,x8] H)→first (fun x0 x1 x2 x3 x4 x5 x6 x7 x8 H=>J [x0,x1,x2,x3,x4,x5,x6,x7,x8] H)
theorem qm6 {a0 a1 a2 a3 a4 a5 a6 a7 a8:Value} {H:AH} {r:Value→Value→Value→Value→Value→Value→Value→Value→Value→AH→Prop}:@joinV9 (fun J=>J a0 a1 a2 a3 a4 a5 a6 a7 a8 H) ⟨r⟩=r a0 a1 a2 a3 a4 a5 a6 a7 a8 H:=by
  apply propext
  constructor
  · intro h;exact h (fun vs H=>r (vs.getD 0 undef) (vs.getD 1 undef) (vs.getD 2 undef) (vs.getD 3 undef) (vs.getD 4 undef) (vs.getD 5 undef) (vs.getD 6 undef) (vs.getD 7 undef) (vs.getD 8 undef) H) (fun x0 x1 x2 x3 x4 x5 x6 x7 x8 H h=>h (fun _=>undef))
  · intro h J hJ;exact hJ _ _ _ _ _ _ _ _ _ _ (fun _=>h)
def joinV10 (first:(Value→Value→Value→Value→Value→Value→Value→Value→Value→Value→AH→Prop)→Prop) [k:Kb (Value→Value→Value→Value→Value→Value→Value→Value→Value→Value→AH→Prop)]:Prop:=∀ J:List Value→AH→Prop,(∀ x0 x1 x2 x3 x4 x5 x6 x7 x8 x9:Value,∀ H,((Nat→Value)→k.f x0 x1 x2 x3 x4 x5 x6 x7 x8 x9 H)→J [x0,x1,x2,x3,x4,x5,x6,x7,x8,x9] H)→first (fun x0 x1 x2 x3 x4 x5 x6 x7 x8 x9 H=>J [x0,x1,x2,x3,x4,x5,x6,x7,x8,x9] H)
theorem qkq {a0 a1 a2 a3 a4 a5 a6 a7 a8 a9:Value} {H:AH} {r:Value→Value→Value→Value→Value→Value→Value→Value→Value→Value→AH→Prop}:@joinV10 (fun J=>J a0 a1 a2 a3 a4 a5 a6 a7 a8 a9 H) ⟨r⟩=r a0 a1 a2 a3 a4 a5 a6 a7 a8 a9 H:=by
  apply propext
  constructor
  · intro h;exact h (fun vs H=>r (vs.getD 0 undef) (vs.getD 1 undef) (vs.getD 2 undef) (vs.getD 3 undef) (vs.getD 4 undef) (vs.getD 5 undef) (vs.getD 6 undef) (vs.getD 7 undef) (vs.getD 8 undef) (vs.getD 9 undef) H) (fun x0 x1 x2 x3 x4 x5 x6 x7 x8 x9 H h=>h (fun _=>undef))
  · intro h J hJ;exact hJ _ _ _ _ _ _ _ _ _ _ _ (fun _=>h)
def joinV11 (first:(Value→Value→Value→Value→Value→Value→Value→Value→Value→Value→Value→AH→Prop)→Prop) [k:Kb (Value→Value→Value→Value→Value→Value→Value→Value→Value→Value→Value→AH→Prop)]:Prop:=∀ J:List Value→AH→Prop,(∀ x0 x1 x2 x3 x4 x5 x6 x7 x8 x9 x10:Value,∀ H,((Nat→Value)→k.f x0 x1 x2 x3 x4 x5 x6 x7 x8 x9 x10 H)→J [x0,x1,x2,x3,x4,x5,x6,x7,x8,x9,x10] H)→first (fun x0 x1 x2 x3 x4 x5 x6 x7 x8 x9 x10 H=>J [x0,x1,x2,x3,x4,x5,x6,x7,x8,x9,x10] H)
theorem qkp {a0 a1 a2 a3 a4 a5 a6 a7 a8 a9 a10:Value} {H:AH} {r:Value→Value→Value→Value→Value→Value→Value→Value→Value→Value→Value→AH→Prop}:@joinV11 (fun J=>J a0 a1 a2 a3 a4 a5 a6 a7 a8 a9 a10 H) ⟨r⟩=r a0 a1 a2 a3 a4 a5 a6 a7 a8 a9 a10 H:=by
  apply propext
  constructor
  · intro h;exact h (fun vs H=>r (vs.getD 0 undef) (vs.getD 1 undef) (vs.getD 2 undef) (vs.getD 3 undef) (vs.getD 4 undef) (vs.getD 5 undef) (vs.getD 6 undef) (vs.getD 7 undef) (vs.getD 8 undef) (vs.getD 9 undef) (vs.getD 10 undef) H) (fun x0 x1 x2 x3 x4 x5 x6 x7 x8 x9 x10 H h=>h (fun _=>undef))
  · intro h J hJ;exact hJ _ _ _ _ _ _ _ _ _ _ _ _ (fun _=>h)
def joinV12 (first:(Value→Value→Value→Value→Value→Value→Value→Value→Value→Value→Value→Value→AH→Prop)→Prop) [k:Kb (Value→Value→Value→Value→Value→Value→Value→Value→Value→Value→Value→Value→AH→Prop)]:Prop:=∀ J:List Value→AH→Prop,(∀ x0 x1 x2 x3 x4 x5 x6 x7 x8 x9 x10 x11:Value,∀ H,((Nat→Value)→k.f x0 x1 x2 x3 x4 x5 x6 x7 x8 x9 x10 x11 H)→J [x0,x1,x2,x3,x4,x5,x6,x7,x8,x9,x10,x11] H)→first (fun x0 x1 x2 x3 x4 x5 x6 x7 x8 x9 x10 x11 H=>J [x0,x1,x2,x3,x4,x5,x6,x7,x8,x9,x10,x11] H)
theorem qkn {a0 a1 a2 a3 a4 a5 a6 a7 a8 a9 a10 a11:Value} {H:AH} {r:Value→Value→Value→Value→Value→Value→Value→Value→Value→Value→Value→Value→AH→Prop}:@joinV12 (fun J=>J a0 a1 a2 a3 a4 a5 a6 a7 a8 a9 a10 a11 H) ⟨r⟩=r a0 a1 a2 a3 a4 a5 a6 a7 a8 a9 a10 a11 H:=by
  apply propext
  constructor
  · intro h;exact h (fun vs H=>r (vs.getD 0 undef) (vs.getD 1 undef) (vs.getD 2 undef) (vs.getD 3 undef) (vs.getD 4 undef) (vs.getD 5 undef) (vs.getD 6 undef) (vs.getD 7 undef) (vs.getD 8 undef) (vs.getD 9 undef) (vs.getD 10 undef) (vs.getD 11 undef) H) (fun x0 x1 x2 x3 x4 x5 x6 x7 x8 x9 x10 x11 H h=>h (fun _=>undef))
  · intro h J hJ;exact hJ _ _ _ _ _ _ _ _ _ _ _ _ _ (fun _=>h)
def joinV13 (first:(Value→Value→Value→Value→Value→Value→Value→Value→Value→Value→Value→Value→Value→AH→Prop)→Prop) [k:Kb (Value→Value→Value→Value→Value→Value→Value→Value→Value→Value→Value→Value→Value→AH→Prop)]:Prop:=∀ J:List Value→AH→Prop,(∀ x0 x1 x2 x3 x4 x5 x6 x7 x8 x9 x10 x11 x12:Value,∀ H,((Nat→Value)→k.f x0 x1 x2 x3 x4 x5 x6 x7 x8 x9 x10 x11 x12 H)→J [x0,x1,x2,x3,x4,x5,x6,x7,x8,x9,x10,x11,x12] H)→first (fun x0 x1 x2 x3 x4 x5 x6 x7 x8 x9 x10 x11 x12 H=>J [x0,x1,x2,x3,x4,x5,x6,x7,x8,x9,x10,x11,x12] H)
theorem qkm {a0 a1 a2 a3 a4 a5 a6 a7 a8 a9 a10 a11 a12:Value} {H:AH} {r:Value→Value→Value→Value→Value→Value→Value→Value→Value→Value→Value→Value→Value→AH→Prop}:@joinV13 (fun J=>J a0 a1 a2 a3 a4 a5 a6 a7 a8 a9 a10 a11 a12 H) ⟨r⟩=r a0 a1 a2 a3 a4 a5 a6 a7 a8 a9 a10 a11 a12 H:=by
  apply propext
  constructor
  · intro h;exact h (fun vs H=>r (vs.getD 0 undef) (vs.getD 1 undef) (vs.getD 2 undef) (vs.getD 3 undef) (vs.getD 4 undef) (vs.getD 5 undef) (vs.getD 6 undef) (vs.getD 7 undef) (vs.getD 8 undef) (vs.getD 9 undef) (vs.getD 10 undef) (vs.getD 11 undef) (vs.getD 12 undef) H) (fun x0 x1 x2 x3 x4 x5 x6 x7 x8 x9 x10 x11 x12 H h=>h (fun _=>undef))
  · intro h J hJ;exact hJ _ _ _ _ _ _ _ _ _ _ _ _ _ _ (fun _=>h)
def joinV14 (first:(Value→Value→Value→Value→Value→Value→Value→Value→Value→Value→Value→Value→Value→Value→AH→Prop)→Prop) [k:Kb (Value→Value→Value→Value→Value→Value→Value→Value→Value→Value→Value→Value→Value→Value→AH→Prop)]:Prop:=∀ J:List Value→AH→Prop,(∀ x0 x1 x2 x3 x4 x5 x6 x7 x8 x9 x10 x11 x12 x13:Value,∀ H,((Nat→Value)→k.f x0 x1 x2 x3 x4 x5 x6 x7 x8 x9 x10 x11 x12 x13 H)→J [x0,x1,x2,x3,x4,x5,x6,x7,x8,x9,x10,x11,x12,x13] H)→first (fun x0 x1 x2 x3 x4 x5 x6 x7 x8 x9 x10 x11 x12 x13 H=>J [x0,x1,x2,x3,x4,x5,x6,x7,x8,x9,x10,x11,x12,x13] H)
theorem qkk {a0 a1 a2 a3 a4 a5 a6 a7 a8 a9 a10 a11 a12 a13:Value} {H:AH} {r:Value→Value→Value→Value→Value→Value→Value→Value→Value→Value→Value→Value→Value→Value→AH→Prop}:@joinV14 (fun J=>J a0 a1 a2 a3 a4 a5 a6 a7 a8 a9 a10 a11 a12 a13 H) ⟨r⟩=r a0 a1 a2 a3 a4 a5 a6 a7 a8 a9 a10 a11 a12 a13 H:=by
  apply propext
  constructor
  · intro h;exact h (fun vs H=>r (vs.getD 0 undef) (vs.getD 1 undef) (vs.getD 2 undef) (vs.getD 3 undef) (vs.getD 4 undef) (vs.getD 5 undef) (vs.getD 6 undef) (vs.getD 7 undef) (vs.getD 8 undef) (vs.getD 9 undef) (vs.getD 10 undef) (vs.getD 11 undef) (vs.getD 12 undef) (vs.getD 13 undef) H) (fun x0 x1 x2 x3 x4 x5 x6 x7 x8 x9 x10 x11 x12 x13 H h=>h (fun _=>undef))
  · intro h J hJ;exact hJ _ _ _ _ _ _ _ _ _ _ _ _ _ _ _ (fun _=>h)
theorem asB_undef':asB undef=false:=_root_.id rfl
theorem qr1:asNB undef=false:=_root_.id rfl
theorem shOwn:(type_of% @qnk)∧(type_of% @guardJ_V)∧(type_of% @guardJ_O)∧(type_of% @guardJ_P)∧(type_of% @guardJ_K)∧(type_of% @guardJ_H)∧(type_of% @guardJ_LB)∧(type_of% @guardJ_LH)∧(type_of% @guardJ_C)∧(type_of% @guardJ_CC)∧(type_of% @guardJ_F)∧(type_of% @guardJ_FF)∧(type_of% @qnh)∧(type_of% @qng)∧(type_of% @qnf)∧(type_of% @qnd)∧(type_of% @qnc)∧(type_of% @qnb)∧(type_of% @qm9)∧(type_of% @qm8)∧(type_of% @qm7)∧(type_of% @qm6)∧(type_of% @qkq)∧(type_of% @qkp)∧(type_of% @qkn)∧(type_of% @qkm)∧(type_of% @qkk)∧(type_of% @letD_eq)∧(type_of% @asB_undef')∧(type_of% @qr1):=⟨@qnk,@guardJ_V,@guardJ_O,@guardJ_P,@guardJ_K,@guardJ_H,@guardJ_LB,@guardJ_LH,@guardJ_C,@guardJ_CC,@guardJ_F,@guardJ_FF,@qnh,@qng,@qnf,@qnd,@qnc,@qnb,@qm9,@qm8,@qm7,@qm6,@qkq,@qkp,@qkn,@qkm,@qkk,@letD_eq,@asB_undef',@qr1⟩
end Go.Sim

namespace Go.Sim
open Go
def Pre (H H':AH):Prop:=∀ b,b<H.length→H'[b]? = H[b]?
theorem Pre.refl (H:AH):Pre H H:=fun _ _=>rfl
theorem Pre.len {H H':AH} (h:Pre H H'):H.length≤H'.length:=by
  cases hl:H.length with
  | zero=>omega
  | succ n =>
    have h1:=h n (by omega)
    rw [List.getElem?_eq_getElem (l:=H) (by omega)] at h1
    have:=(List.getElem?_eq_some_iff.1 h1).1
    omega
theorem Pre.trans {H H1 H2:AH} (h:Pre H H1) (k:Pre H1 H2):Pre H H2:=fun b hb=>(k b (Nat.lt_of_lt_of_le hb h.len)).trans (h b hb)
theorem Pre.app {H H':AH} (h:Pre H H') (Y:AH):Pre H (H'++Y):=fun b hb=>by
  rw [List.getElem?_append_left (Nat.lt_of_lt_of_le hb h.len)];exact h b hb
theorem Pre.new (H Y:AH):Pre H (H++Y):=(Pre.refl H).app Y
theorem Pre.set {H H':AH} (h:Pre H H') {b:Nat} (hb:H.length≤b) (x:AB):Pre H (H'.set b x):=fun k hk=>by
  rw [List.getElem?_set_ne (by omega)];exact h k hk
theorem Pre.get {H H':AH} (h:Pre H H') {b:Nat} {x:AB} (hb:H[b]? = some x):H'[b]? = some x:=by
  rw [h b (List.getElem?_eq_some_iff.1 hb).1];exact hb
theorem qbr {H:AH} {b:Nat} {x:AB} (hb:H[b]? = some x):b<H.length:=(List.getElem?_eq_some_iff.1 hb).1
theorem qc4 {H:AH} {b:Nat} {x:AB} (hb:H[b]? = some x) (Y:AH):(H++Y)[b]? = some x:=(Pre.new H Y).get hb
def Row (H:AH) (v:Value) (cs:List Value):Prop:=
  (cs=[]∧∃ a c,v=.slice a 0 c)∨∃ b o c cc e op r,v=.slice (some ⟨b,o,none⟩) cs.length c∧H[b]? = some (.cells cc e op r)∧(∀ k,k<cs.length→cc[o+k]? = cs[k]?)∧cs.length≤c
theorem Row.pre {H H':AH} {v:Value} {cs:List Value} (h:Row H v cs) (hp:Pre H H'):Row H' v cs:=by
  rcases h with h|⟨b,o,c,cc,e,op,r,h1,h2,h3⟩
  · exact .inl h
  · exact .inr ⟨b,o,c,cc,e,op,r,h1,hp.get h2,h3⟩
theorem Row.nil {H:AH} {a:Option Addr} {c:Nat}:Row H (.slice a 0 c) []:=.inl ⟨rfl,a,c,rfl⟩
theorem Row.of {H:AH} {b n c:Nat} {cs:List Value} {e:TypeId} {op:Option Nat} {r:Bool} (h:H[b]? = some (.cells cs e op r)) (hn:n=cs.length) (hc:n≤c):Row H (.slice (some ⟨b,0,none⟩) n c) cs:=
  .inr ⟨b,0,c,cs,e,op,r,by rw [hn],h,fun k _=>by rw [Nat.zero_add],by omega⟩
def qf4:Value→Nat→Value
  | .slice (some a) _ _,k=>.pointer (some ⟨a.block,a.off+k,none⟩)
  | _,_=>undef
theorem Row.len {H:AH} {v:Value} {cs:List Value} (h:Row H v cs):qbc .lenS [v]=some (nv cs.length):=by
  rcases h with ⟨rfl,a,c,rfl⟩|⟨b,o,c,cc,e,op,r,rfl,h2,h3,hcap⟩<;>rfl
theorem Row.ix {H:AH} {v:Value} {cs:List Value} (h:Row H v cs) {k:Nat} (hk:k<cs.length):qbc (.ixS 1) [v,nv k]=some (qf4 v k):=by
  rcases h with ⟨rfl,a,c,rfl⟩|⟨b,o,c,cc,e,op,r,rfl,h2,h3,hcap⟩
  · simp at hk
  · rw [qpv (by omega) (by omega)]
    simp [qf4]
theorem Row.ld {H:AH} {v:Value} {cs:List Value} (h:Row H v cs) {k:Nat} (hk:k<cs.length):qbh none H [qf4 v k]=some cs[k]:=by
  rcases h with ⟨rfl,a,c,rfl⟩|⟨b,o,c,cc,e,op,r,rfl,h2,h3,hcap⟩
  · simp at hk
  · unfold qf4
    rw [qfx h2]
    have:=h3 k hk
    rw [List.getElem?_eq_getElem hk] at this
    simp [qdc,this]
theorem Row.ldM {α:Type} {H:AH} {v:Value} {f:α→Value} {xs:List α} (h:Row H v (xs.map f)) (d:α) {k:Nat} (hk:k<xs.length):qbh none H [qf4 v k]=some (f (xs.getD k d)):=by
  rw [h.ld (by simpa using hk)]
  simp [List.getD_eq_getElem?_getD,List.getElem?_eq_getElem hk]
theorem Row.lenM {α:Type} {H:AH} {v:Value} {f:α→Value} {xs:List α} (h:Row H v (xs.map f)):qbc .lenS [v]=some (nv xs.length):=by
  rw [h.len];simp
theorem Row.ixM {α:Type} {H:AH} {v:Value} {f:α→Value} {xs:List α} (h:Row H v (xs.map f)) {k:Nat} (hk:k<xs.length):qbc (.ixS 1) [v,nv k]=some (qf4 v k):=h.ix (by simpa using hk)
theorem Row.all {α:Type} {H:AH} {v:Value} {f:α→Value} {xs:List α} (h:Row H v (xs.map f)) (d:α) :
    qbc .lenS [v]=some (nv xs.length)∧(∀ k,k<xs.length→qbc (.ixS 1) [v,nv k]=some (qf4 v k))∧(∀ k,k<xs.length→qbh none H [qf4 v k]=some (f (xs.getD k d))) ∧
    (∀ k Y,k<xs.length→qbh none (H++Y) [qf4 v k]=some (f (xs.getD k d))):=
  ⟨h.lenM,fun _ hk=>h.ixM hk,fun _ hk=>h.ldM d hk,fun _ Y hk=>(h.pre (Pre.new H Y)).ldM d hk⟩
def Own (H0 H:AH) (v:Value) (cs:List Value) (e:TypeId):Prop:=
  ∃ b,H0.length≤b∧v=.slice (some ⟨b,0,none⟩) cs.length cs.length∧∃ op,(op=none∨op=some 1)∧H[b]? = some (.cells cs e op false)
theorem Own.row {H0 H:AH} {v:Value} {cs:List Value} {e:TypeId} (h:Own H0 H v cs e):Row H v cs:=by
  obtain⟨b,_,rfl,op,_,h2⟩:=h
  exact Row.of h2 rfl (Nat.le_refl _)
theorem Own.pre {H0 H H':AH} {v:Value} {cs:List Value} {e:TypeId} (h:Own H0 H v cs e) (hp:Pre H H'):Own H0 H' v cs e:=by
  obtain⟨b,h1,rfl,op,h3,h2⟩:=h
  exact⟨b,h1,rfl,op,h3,hp.get h2⟩
theorem Own.mono {H0 H1 H:AH} {v:Value} {cs:List Value} {e:TypeId} (h:Own H1 H v cs e) (hl:H0.length≤H1.length):Own H0 H v cs e:=by
  obtain⟨b,h1,rfl,op,h3,h2⟩:=h
  exact⟨b,Nat.le_trans hl h1,rfl,op,h3,h2⟩
theorem Own.new {H0 H:AH} (hl:H0.length≤H.length) {cs:List Value} {e:TypeId} {n:Nat} (hn:n=cs.length) {Y:AH}:Own H0 (H ++ .cells cs e none false :: Y) (.slice (some ⟨H.length,0,none⟩) n n) cs e:=
  ⟨H.length,hl,by rw [hn],none,.inl rfl,by simp⟩
theorem erow_one {H:AH} {b:Nat} {u:Value} {e:TypeId} {op:Option Nat} {r:Bool} {c:Nat} (h:H[b]? = some (.cells [u] e op r)):erow H (.slice (some ⟨b,0,none⟩) 1 c) 1=some [u]:=by
  simp [erow,h]
theorem Own.app {H0 H:AH} {v u:Value} {cs:List Value} {e:TypeId} {by_:Nat} (h:Own H0 H v cs e) (hu:one u=true) (hb:(cs.length+1)*by_≤140737488355328) (hl:cs.length+1≤9223372036854775807) {e2:TypeId} :
    ∃ v' H',xact (.app e 1 by_) (H++[.cells [u] e2 none false]) [v,.slice (some ⟨H.length,0,none⟩) 1 1]=some (v',H')∧Own H0 H' v' (cs++[u]) e∧(∀ b,b<H.length→(∀ l c,v≠.slice (some ⟨b,0,none⟩) l c)→H'[b]? = H[b]?)∧H.length≤H'.length∧(Pre H0 H→Pre H0 H'):=by
  obtain⟨b,h1,rfl,op,h3,h2⟩:=h
  have hlt:=qbr h2
  have hg:(H++[AB.cells [u] e2 none false])[b]? = some (.cells cs e op false):=qc4 h2 _
  have he:erow (H++[AB.cells [u] e2 none false]) (.slice (some ⟨H.length,0,none⟩) 1 1) (slen (.slice (some ⟨H.length,0,none⟩) 1 1)*1)=some [u]:=erow_one (b:=H.length) (e:=e2) (op:=none) (r:=false) (by simp)
  have hc:¬cs.length+1≤cs.length:=by omega
  have hlen:H.length≤((H++[AB.cells [u] e2 none false]).set b .dead).length:=by simp
  unfold xact
  simp only [he]
  rw [if_pos ⟨by simpa [slen] using hb,by simpa [slen] using hl,by simpa using hu⟩]
  simp only [hg,slen]
  rw [if_neg hc]
  rcases h3 with rfl|rfl
  · rw [if_pos rfl,if_pos (by simp)]
    refine⟨_,_,rfl,⟨(H++[AB.cells [u] e2 none false]).length,by simp;omega,by simp,some 1,.inr rfl,?_⟩,?_,by simp,?_⟩
    · simp
    · intro b' hb' _
      rw [List.getElem?_append_left (by simp;omega),List.getElem?_append_left hb']
    · intro hp;exact (hp.app _).app _
  · rw [if_neg (by simp),if_pos (by simp)]
    refine⟨_,_,rfl,⟨(H++[AB.cells [u] e2 none false]).length,by simp;omega,by simp,some 1,.inr rfl,?_⟩,?_,by simp;omega,?_⟩
    · simp
    · intro b' hb' hne
      have:b'≠b:=fun e=>hne _ _ (by rw [e])
      rw [List.getElem?_append_left (by simp;omega),List.getElem?_set_ne (Ne.symm this),List.getElem?_append_left hb']
    · intro hp;exact ((hp.app _).set h1 _).app _
theorem Row.cells {H:AH} {v:Value} {cs:List Value} (h:Row H v cs):qbn v=[v]:=by
  rcases h with ⟨_,a,c,rfl⟩|⟨b,o,c,cc,e,op,r,rfl,h2,h3,hcap⟩<;>rfl
theorem Row.one {H:AH} {v:Value} {cs:List Value} (h:Row H v cs):one v=true:=by
  rcases h with ⟨_,a,c,rfl⟩|⟨b,o,c,cc,e,op,r,rfl,h2,h3,hcap⟩<;>rfl
def Acc (H0 H:AH) (v:Value) (cs:List Value) (e:TypeId):Prop:=(cs=[]∧v=.slice none 0 0)∨Own H0 H v cs e
theorem Own.acc {H0 H:AH} {v:Value} {cs:List Value} {e:TypeId} (h:Own H0 H v cs e):Acc H0 H v cs e:=.inr h
theorem Acc.nil {H0 H:AH} {e:TypeId}:Acc H0 H (.slice none 0 0) [] e:=.inl ⟨rfl,rfl⟩
theorem Acc.row {H0 H:AH} {v:Value} {cs:List Value} {e:TypeId} (h:Acc H0 H v cs e):Row H v cs:=by
  rcases h with ⟨rfl,rfl⟩|h
  · exact Row.nil
  · exact h.row
theorem Acc.pre {H0 H H':AH} {v:Value} {cs:List Value} {e:TypeId} (h:Acc H0 H v cs e) (hp:Pre H H'):Acc H0 H' v cs e:=h.imp (fun x=>x) (fun x=>x.pre hp)
theorem Acc.mono {H0 H1 H:AH} {v:Value} {cs:List Value} {e:TypeId} (h:Acc H1 H v cs e) (hl:H0.length≤H1.length):Acc H0 H v cs e:=h.imp (fun x=>x) (fun x=>x.mono hl)
theorem Row.slen {H:AH} {v:Value} {cs:List Value} (h:Row H v cs):slen v=cs.length:=by
  rcases h with ⟨rfl,a,c,rfl⟩|⟨b,o,c,cc,e,op,r,rfl,h2,h3,hcap⟩<;>rfl
def RowX (H:AH) (v:Value) (cs:List Value):Prop:=Row H v cs∧erow H v (Sim.slen v*1)=some cs
theorem Row.x {H:AH} {v:Value} {cs:List Value} (h:Row H v cs) (hn:cs≠[]):RowX H v cs:=by
  refine⟨h,?_⟩
  rw [h.slen,Nat.mul_one]
  rcases h with ⟨rfl,a,c,rfl⟩|⟨b,o,c,cc,e,op,r,rfl,h2,h3,hcap⟩
  · exact absurd rfl hn
  · unfold Sim.erow
    have h0:0<cs.length:=List.length_pos_iff.2 hn
    have hlen:o+cs.length≤cc.length:=by
      have:=h3 (cs.length-1) (by omega)
      rw [List.getElem?_eq_getElem (l:=cs) (by omega)] at this
      have:=(List.getElem?_eq_some_iff.1 this).1
      omega
    have he:(cc.drop o).take cs.length=cs:=by
      refine List.ext_getElem? fun k=>?_
      by_cases hk:k<cs.length
      · rw [List.getElem?_take_of_lt hk,List.getElem?_drop,h3 k hk]
      · rw [List.getElem?_eq_none (by simp;omega),List.getElem?_eq_none (by omega)]
    simp only [h2]
    rw [if_pos hlen,he]
theorem RowX.pre {H H':AH} {v:Value} {cs:List Value} (h:RowX H v cs) (hp:Pre H H'):RowX H' v cs:=by
  refine⟨h.1.pre hp,?_⟩
  have he:=h.2
  revert he
  unfold Sim.erow
  split
  · exact fun h=>h
  · rename_i a _ _
    split
    · split
      · rename_i hb
        rw [hp.get hb];exact fun h=>h
      · intro h;cases h
    · exact fun h=>h
  · exact fun h=>h
theorem Acc.x {H0 H:AH} {v:Value} {cs:List Value} {e:TypeId} (h:Acc H0 H v cs e):RowX H v cs:=by
  refine⟨h.row,?_⟩
  rw [h.row.slen,Nat.mul_one]
  rcases h with ⟨rfl,rfl⟩|⟨b,hb1,rfl,op,h3,h2⟩
  · rfl
  · unfold Sim.erow
    simp [h2]
theorem Acc.appF {H0 H:AH} (hl0:H0.length≤H.length) {v u:Value} {cs us:List Value} {e:TypeId} {by_:Nat} (h:Acc H0 H v cs e) (hu:RowX H u us) (h1:us.all one=true) (hb:(cs.length+us.length)*by_≤140737488355328) (hl:cs.length+us.length≤9223372036854775807) :
    ∃ v' H',xact (.app e 1 by_) H [v,u]=some (v',H')∧Acc H0 H' v' (cs++us) e∧(∀ b,b<H0.length→H'[b]? = H[b]?)∧H.length≤H'.length:=by
  have he:=hu.2
  have hs:=hu.1.slen
  unfold xact
  simp only [he]
  rcases h with ⟨rfl,rfl⟩|⟨b,hb1,rfl,op,h3,h2⟩
  · rw [if_pos ⟨by rw [hs];simpa [Sim.slen] using hb,by rw [hs];simpa [Sim.slen] using hl,h1⟩]
    by_cases h0:us.length=0
    · have:us=[]:=List.eq_nil_of_length_eq_zero h0
      subst this
      simp only [hs,List.length_nil,if_true]
      exact⟨_,_,rfl,.inl ⟨rfl,rfl⟩,fun _ _=>rfl,Nat.le_refl _⟩
    · simp only [hs,if_neg h0]
      exact⟨_,_,rfl,.inr ⟨H.length,hl0,by simp,some 1,.inr rfl,by simp⟩,fun b hb=>List.getElem?_append_left (by omega),by simp⟩
  · rw [if_pos ⟨by rw [hs];simpa [Sim.slen] using hb,by rw [hs];simpa [Sim.slen] using hl,h1⟩]
    simp only [h2,hs]
    by_cases h0:us.length=0
    · have:us=[]:=List.eq_nil_of_length_eq_zero h0
      subst this
      simp only [List.length_nil,Nat.add_zero,Nat.le_refl,if_true]
      exact⟨_,_,rfl,.inr ⟨b,hb1,by simp,op,h3,by simpa using h2⟩,fun _ _=>rfl,Nat.le_refl _⟩
    · rw [if_neg (by omega)]
      rcases h3 with rfl|rfl
      · rw [if_pos rfl,if_pos (by simp)]
        exact⟨_,_,rfl,.inr ⟨H.length,by omega,by simp,some 1,.inr rfl,by simp⟩,fun b hb=>List.getElem?_append_left (by omega),by simp⟩
      · rw [if_neg (by simp),if_pos (by simp)]
        exact⟨_,_,rfl,.inr ⟨H.length,by omega,by simp,some 1,.inr rfl,by simp⟩,fun b' hb=>by rw [List.getElem?_append_left (by simp;omega),List.getElem?_set_ne (by omega)],by simp⟩
theorem Acc.appR {H0 H:AH} (hl0:H0.length≤H.length) {v u:Value} {cs us:List Value} {e:TypeId} {by_:Nat} (h:Acc H0 H v cs e) (hu:RowX H u us) (h1:us.all one=true) (hb:(cs.length+us.length)*by_≤140737488355328) (hl:cs.length+us.length≤9223372036854775807) :
    ∃ v' H',xact (.app e 1 by_) H [v,u]=some (v',H')∧Acc H0 H' v' (cs++us) e∧(Pre H0 H→Pre H0 H')∧H.length≤H'.length:=by
  obtain⟨v',H',q1,q2,q3,q4⟩:=Acc.appF (by_:=by_) hl0 h hu h1 hb hl
  exact⟨v',H',q1,q2,fun hp b hb=>(q3 b hb).trans (hp b hb),q4⟩
theorem Acc.app1 {H0 H:AH} (hl0:H0.length≤H.length) {v u:Value} {cs:List Value} {e:TypeId} {by_:Nat} (h:Acc H0 H v cs e) (hu:one u=true) (hb:(cs.length+1)*by_≤140737488355328) (hl:cs.length+1≤9223372036854775807) {e2:TypeId} :
    ∃ v' H',xact (.app e 1 by_) (H++[.cells [u] e2 none false]) [v,.slice (some ⟨H.length,0,none⟩) 1 1]=some (v',H')∧Acc H0 H' v' (cs++[u]) e∧(Pre H0 H→Pre H0 H')∧H.length≤H'.length:=by
  obtain⟨v',H',h1,h2,h3,h4⟩:=Acc.appR (H:=H++[.cells [u] e2 none false]) (by simp;omega) (h.pre (Pre.new H _)) (u:=.slice (some ⟨H.length,0,none⟩) 1 1) (us:=[u]) ((Row.of (b:=H.length) (e:=e2) (op:=none) (r:=false) (by simp) rfl (Nat.le_refl _)).x (by simp)) (by simpa using hu) hb hl (by_:=by_)
  exact⟨v',H',h1,h2,fun hp=>h3 (hp.app _),by simp at h4;omega⟩
theorem Acc.app1G {H0 H:AH} (hl0:H0.length≤H.length) {v u:Value} {cs:List Value} {e:TypeId} {by_:Nat} (h:Acc H0 H v cs e) (hu:one u=true) (hb:(cs.length+1)*by_≤140737488355328) (hl:cs.length+1≤9223372036854775807) {e2:TypeId} :
    ∃ v' H',xact (.app e 1 by_) (H++[.cells [u] e2 none false]) [v,.slice (some ⟨H.length,0,none⟩) 1 1]=some (v',H')∧Acc H0 H' v' (cs++[u]) e∧(∀ b,b<H.length→(∀ l c,v≠.slice (some ⟨b,0,none⟩) l c)→H'[b]? = H[b]?)∧H.length≤H'.length:=by
  rcases h with ⟨rfl,rfl⟩|h
  · have he:=erow_one (H:=H++[AB.cells [u] e2 none false]) (b:=H.length) (u:=u) (e:=e2) (op:=none) (r:=false) (c:=1) (by simp)
    have hx:xact (.app e 1 by_) (H++[AB.cells [u] e2 none false]) [.slice none 0 0,.slice (some ⟨H.length,0,none⟩) 1 1]=some (.slice (some ⟨H.length+1,0,none⟩) 1 1,H++[AB.cells [u] e2 none false]++[.cells [u] e (some 1) false]):=by
      unfold xact
      simp only [Sim.slen,Nat.one_mul,he]
      rw [if_pos ⟨by simpa using hb,by simp,by simpa using hu⟩]
      simp
    refine⟨_,_,hx,.inr ⟨H.length+1,by omega,rfl,some 1,.inr rfl,by simp⟩,fun b hb _=>?_,by simp⟩
    rw [List.getElem?_append_left (by simp;omega),List.getElem?_append_left hb]
  · obtain⟨v',H',q1,q2,q3,q4,_⟩:=h.app (by_:=by_) hu hb hl (e2:=e2)
    exact⟨v',H',q1,q2.acc,q3,q4⟩
def Rws (H:AH) (vs:List Value) (css:List (List Value)):Prop:=vs.length=css.length∧∀ k,k<css.length→Row H (vs.getD k undef) (css.getD k [])
theorem Rws.pre {H H':AH} {vs:List Value} {css:List (List Value)} (h:Rws H vs css) (hp:Pre H H'):Rws H' vs css:=⟨h.1,fun k hk=>(h.2 k hk).pre hp⟩
theorem Rws.snoc {H:AH} {vs:List Value} {css:List (List Value)} {v:Value} {cs:List Value} (h:Rws H vs css) (hv:Row H v cs):Rws H (vs++[v]) (css++[cs]):=by
  refine⟨by simp [h.1],fun k hk=>?_⟩
  have hl:=h.1
  simp only [List.length_append,List.length_cons,List.length_nil] at hk
  simp only [List.getD_eq_getElem?_getD]
  by_cases h1:k<css.length
  · rw [List.getElem?_append_left (by omega),List.getElem?_append_left h1]
    simpa [List.getD_eq_getElem?_getD] using h.2 k h1
  · have:k=css.length:=by omega
    subst this
    rw [List.getElem?_append_right (by omega),List.getElem?_append_right (by omega)]
    simpa [hl] using hv
def RowR (H:AH) (v:Value) (css:List (List Value)):Prop:=∃ vs,RowX H v vs∧Rws H vs css
theorem RowR.pre {H H':AH} {v:Value} {css:List (List Value)} (h:RowR H v css) (hp:Pre H H'):RowR H' v css:=let ⟨vs,h1,h2⟩:=h;⟨vs,h1.pre hp,h2.pre hp⟩
theorem Row.allV {H:AH} {v:Value} {vs:List Value} (h:Row H v vs) :
    qbc .lenS [v]=some (nv vs.length)∧(∀ k,k<vs.length→qbc (.ixS 1) [v,nv k]=some (qf4 v k))∧(∀ k,k<vs.length→qbh none H [qf4 v k]=some (vs.getD k undef)) ∧
    (∀ k Y,k<vs.length→qbh none (H++Y) [qf4 v k]=some (vs.getD k undef)):=by
  have h':Row H v (vs.map id):=by simpa using h
  exact h'.all undef
def qk9:Value→Bool
  | .slice _ _ _=>false
  | _=>true
def isSl:Value→Bool
  | .slice _ _ _=>true
  | _=>false
theorem Row.isSl {H:AH} {v:Value} {cs:List Value} (h:Row H v cs):isSl v=true:=by
  rcases h with ⟨_,a,c,rfl⟩|⟨b,o,c,cc,e,op,r,rfl,h2,h3,hcap⟩<;>rfl
theorem Rws.isSl {H:AH} {vs:List Value} {css:List (List Value)} (h:Rws H vs css):vs.all Sim.isSl=true:=by
  rw [List.all_eq_true]
  intro x hx
  obtain⟨k,hk,rfl⟩:=List.mem_iff_getElem.1 hx
  have:=(h.2 k (by rw [←h.1];exact hk)).isSl
  simpa [List.getD_eq_getElem?_getD,List.getElem?_eq_getElem hk] using this
theorem Row.keep {H H':AH} {v:Value} {cs vs:List Value} {b:Nat} {e:TypeId} {op:Option Nat} {r:Bool} (h:Row H v cs) (hp:cs.all qk9=true) (hb:H[b]? = some (.cells vs e op r)) (hs:vs.all Sim.isSl=true) (hk:∀ b',b'<H.length→b'≠b→H'[b']? = H[b']?):Row H' v cs:=by
  rcases h with h|⟨b1,o,c,cc,e1,op1,r1,rfl,h2,h3,hcap⟩
  · exact .inl h
  · by_cases h0:cs=[]
    · subst h0;exact .inl ⟨rfl,_,_,rfl⟩
    · have hne:b1≠b:=by
        rintro rfl
        rw [hb] at h2
        cases h2
        have hl:0<cs.length:=List.length_pos_iff.2 h0
        have h4:=h3 0 hl
        rw [List.getElem?_eq_getElem hl] at h4
        have h5:=List.all_eq_true.1 hp _ (List.getElem_mem hl)
        have h6:=List.all_eq_true.1 hs _ (List.mem_of_getElem? h4)
        cases hc:cs[0]<;>rw [hc] at h5 h6<;>simp [qk9,Sim.isSl] at h5 h6
      exact .inr ⟨b1,o,c,cc,e1,op1,r1,rfl,by rw [hk b1 (qbr h2) hne];exact h2,h3,hcap⟩
def AccR (H0 H:AH) (v:Value) (css:List (List Value)) (e:TypeId):Prop:=∃ vs,Acc H0 H v vs e∧Rws H vs css∧∀ cs∈css,cs.all qk9=true
theorem AccR.rowR {H0 H:AH} {v:Value} {css:List (List Value)} {e:TypeId} (h:AccR H0 H v css e):RowR H v css:=let ⟨vs,h1,h2,_⟩:=h;⟨vs,h1.x,h2⟩
theorem AccR.pre {H0 H H':AH} {v:Value} {css:List (List Value)} {e:TypeId} (h:AccR H0 H v css e) (hp:Pre H H'):AccR H0 H' v css e:=let ⟨vs,h1,h2,h3⟩:=h;⟨vs,h1.pre hp,h2.pre hp,h3⟩
theorem AccR.new {H0 H:AH} (hl:H0.length≤H.length) {e:TypeId} {Y:AH}:AccR H0 (H ++ .cells [] e none false :: Y) (.slice (some ⟨H.length,0,none⟩) 0 0) [] e:=
  ⟨[],(Own.new hl (cs:=[]) rfl).acc,⟨rfl,by simp⟩,by simp⟩
theorem AccR.app1 {H0 H:AH} (hl0:H0.length≤H.length) {v u:Value} {css:List (List Value)} {us:List Value} {e:TypeId} {by_:Nat} (h:AccR H0 H v css e) (hu:Row H u us) (hpl:us.all qk9=true) (hb:(css.length+1)*by_≤140737488355328) (hl:css.length+1≤9223372036854775807) {e2:TypeId} :
    ∃ v' H',xact (.app e 1 by_) (H++[.cells [u] e2 none false]) [v,.slice (some ⟨H.length,0,none⟩) 1 1]=some (v',H')∧AccR H0 H' v' (css++[us]) e∧(Pre H0 H→Pre H0 H')∧H.length≤H'.length:=by
  obtain⟨vs,h1,h2,h3⟩:=h
  have hlen:=h2.1
  have hplain:∀ cs∈css++[us],cs.all qk9=true:=by
    intro cs hcs
    rcases List.mem_append.1 hcs with hc|hc
    · exact h3 _ hc
    · rw [List.mem_singleton.1 hc];exact hpl
  have key:∀ H',(∀ b',b'<H.length→(∀ l c,v≠.slice (some ⟨b',0,none⟩) l c)→H'[b']? = H[b']?)→Rws H' (vs++[u]) (css++[us]):=by
    intro H' hk
    have hr:∀ r cs,Row H r cs→cs.all qk9=true→Row H' r cs:=by
      intro r cs hr hc
      rcases h1 with ⟨rfl,rfl⟩|⟨b,hb1,rfl,op,h4,h5⟩
      · exact hr.pre fun b' hb'=>hk b' hb' (fun _ _=>by simp)
      · exact hr.keep hc h5 h2.isSl fun b' hb' hne=>hk b' hb' (fun l c=>by simp;intro e;exact absurd e.symm hne)
    refine Rws.snoc ⟨hlen,fun k hk'=>hr _ _ (h2.2 k hk') (h3 _ ?_)⟩ (hr _ _ hu hpl)
    rw [List.getD_eq_getElem?_getD,List.getElem?_eq_getElem hk']
    exact List.getElem_mem _
  rcases h1 with ⟨rfl,rfl⟩|h1
  · obtain⟨v',H',q1,q2,q3,q4⟩:=Acc.app1 (by_:=by_) (e2:=e2) hl0 (h:=(Acc.nil (H0:=H0) (H:=H) (e:=e))) hu.one (by simpa [←hlen] using hb) (by simp)
    refine⟨v',H',q1,⟨[u],q2,?_,hplain⟩,q3,q4⟩
    refine key H' fun b' hb' _=>?_
    have:xact (.app e 1 by_) (H++[AB.cells [u] e2 none false]) [.slice none 0 0,.slice (some ⟨H.length,0,none⟩) 1 1]=some (.slice (some ⟨H.length+1,0,none⟩) 1 1,H++[AB.cells [u] e2 none false]++[.cells [u] e (some 1) false]):=by
      have he:=erow_one (H:=H++[AB.cells [u] e2 none false]) (b:=H.length) (u:=u) (e:=e2) (op:=none) (r:=false) (c:=1) (by simp)
      unfold xact
      simp only [Sim.slen,Nat.one_mul,he]
      rw [if_pos ⟨by simpa [←hlen] using hb,by simp,by simpa using hu.one⟩]
      simp
    rw [this] at q1
    cases q1
    rw [List.getElem?_append_left (by simp;omega),List.getElem?_append_left hb']
  · obtain⟨v',H',q1,q2,q3,q4,q5⟩:=h1.app (by_:=by_) hu.one (by rw [hlen];exact hb) (by rw [hlen];exact hl) (e2:=e2)
    exact⟨v',H',q1,⟨_,q2.acc,key H' q3,hplain⟩,q5,q4⟩
theorem Pre.snoc (H:AH) (x:AB) (Y:AH):Pre (H++[x]) (H++x :: Y):=by
  have:=Pre.new (H++[x]) Y
  simpa using this
theorem Acc.start1 {H:AH} {x:AB} {e:TypeId} {Y:AH} {cs:List Value} {n:Nat} (hn:n=cs.length):Acc (H++[x]) (H++x :: .cells cs e none false :: Y) (.slice (some ⟨H.length+1,0,none⟩) n n) cs e:=by
  have:=Own.new (H0:=H++[x]) (H:=H++[x]) (Nat.le_refl _) (cs:=cs) (e:=e) hn (Y:=Y)
  simpa using this.acc
theorem Row.part {H:AH} {v:Value} {cs:List Value} (h:Row H v cs) {lo hi:Nat} (h1:lo≤hi) (h2:hi≤cs.length) (h3:lo<cs.length):∃ v',qbc (.slS 1 true true) [v,nv lo,nv hi]=some v'∧Row H v' ((cs.drop lo).take (hi-lo)):=by
  rcases h with ⟨rfl,a,c,rfl⟩|⟨b,o,c,cc,e,op,r,rfl,hb,hr,hcap⟩
  · simp at h3
  · have hlen:((cs.drop lo).take (hi-lo)).length=hi-lo:=by simp;omega
    have hcell:∀ k,k<hi-lo→cc[o+lo+k]? = ((cs.drop lo).take (hi-lo))[k]?:=fun k hk=>by
      rw [Nat.add_assoc,hr (lo+k) (by omega),List.getElem?_take_of_lt hk,List.getElem?_drop]
    by_cases h0:lo=0
    · subst h0
      refine⟨.slice (some ⟨b,o,none⟩) hi c,?_,.inr ⟨b,o,c,cc,e,op,r,by rw [hlen];simp,hb,fun k hk=>?_,by omega⟩⟩
      · simp [qbc,bnds];omega
      · rw [hlen] at hk;have:=hcell k hk;simpa using this
    · refine⟨.slice (some ⟨b,o+lo,none⟩) (hi-lo) (c-lo),?_,.inr ⟨b,o+lo,c-lo,cc,e,op,r,by rw [hlen],hb,fun k hk=>?_,by omega⟩⟩
      · simp only [qbc,bnds,Option.getD_some]
        rw [if_pos ⟨trivial,by omega,by omega,by omega⟩,if_neg (by omega),if_pos (by omega)]
        simp
      · rw [hlen] at hk;exact hcell k hk
theorem Row.upto {H:AH} {v:Value} {cs:List Value} (h:Row H v cs) {hi:Nat} (h2:hi≤cs.length) (h3:0<cs.length):∃ v',qbc (.slS 1 false true) [v,nv hi]=some v'∧Row H v' (cs.take hi):=by
  obtain⟨v',h4,h5⟩:=h.part (lo:=0) (hi:=hi) (by omega) h2 h3
  refine⟨v',?_,?_⟩
  · rcases h with ⟨rfl,a,c,rfl⟩|⟨b,o,c,cc,e,op,r,rfl,hb,hr,hcap⟩
    · simp at h3
    · rw [←h4];simp [qbc,bnds]
  · simpa using h5
theorem cpy_row {H:AH} {b n:Nat} {u:Value} {us cc:List Value} {e:TypeId} {op:Option Nat} (hu:RowX H u us) (hl:us.length=n) (h1:us.all one=true) (hb:H[b]? = some (.cells cc e op false)) (hc:cc.length=n) {m:Nat}:xact (.cpy 1) H [.slice (some ⟨b,0,none⟩) n m,u]=some (nv n,H.set b (.cells us e op false)):=by
  have he:=hu.2
  have hs:=hu.1.slen
  unfold xact
  simp only [hb]
  rw [show Nat.min (Sim.slen u) n=Sim.slen u by rw [hs,hl];exact Nat.min_self n,he]
  simp only
  rw [if_pos ⟨h1,by omega⟩,hs,hl]
  have hd:cc.drop n=[]:=List.drop_of_length_le (by omega)
  simp [qcq,hl,hd]
theorem qjm {H:AH} {b k:Nat} {v:Value} {c:List Value} {e:TypeId} {op:Option Nat} (hb:H[b]? = some (.cells c e op false)) (hk:k<c.length) (hv:qbn v=[v]) (h1:one v=true):xact (.st 1) H [.pointer (some ⟨b,k,none⟩),v]=some (undef,H.set b (.cells (c.set k v) e op false)):=by
  unfold xact
  simp only [hb,hv]
  rw [if_pos ⟨rfl,by simpa using h1,by omega⟩]
  rfl
theorem qdn {H:AH} {x y:AB}:(H++[x]).set H.length y=H++[y]:=by
  rw [List.set_append_right _ _ (Nat.le_refl _)];simp
theorem xfill_nil {c:List Value}:qbv c [] []=some c:=_root_.id rfl
theorem qg8 {c:List Value} {off:Nat} {pl:List (Nat×Nat)} {v:Value} {vs:List Value} (h:qbn v=[v]) (ho:off<c.length):qbv c ((off,1) :: pl) (v :: vs)=qbv (c.set off v) pl vs:=by
  rw [qbv,h,if_pos ⟨rfl,ho⟩];rfl
theorem xfill_int {c:List Value} {off:Nat} {pl:List (Nat×Nat)} {k:IntKind} {n:Int} {vs:List Value} (ho:off<c.length):qbv c ((off,1) :: pl) (.int k n :: vs)=qbv (c.set off (.int k n)) pl vs:=qg8 rfl ho
theorem xfill_bool {c:List Value} {off:Nat} {pl:List (Nat×Nat)} {x:Bool} {vs:List Value} (ho:off<c.length):qbv c ((off,1) :: pl) (.bool x :: vs)=qbv (c.set off (.bool x)) pl vs:=qg8 rfl ho
theorem qpw {c:List Value} {off:Nat} {pl:List (Nat×Nat)} {a:Option Addr} {l m:Nat} {vs:List Value} (ho:off<c.length):qbv c ((off,1) :: pl) (.slice a l m :: vs)=qbv (c.set off (.slice a l m)) pl vs:=qg8 rfl ho
theorem Row.fill {H:AH} {v:Value} {cs:List Value} (h:Row H v cs):∀ (c:List Value) (off:Nat) (pl:List (Nat×Nat)) (vs:List Value),off<c.length→qbv c ((off,1) :: pl) (v :: vs)=qbv (c.set off v) pl vs:=fun _ _ _ _ ho=>qg8 h.cells ho
theorem loadB_p2 {x0 x1:Value} {c:List Value} {e:TypeId} {op:Option Nat} {r:Bool}:qdm (some 2) (some (.cells (x0 :: x1 :: c) e op r)) 0=some (.agg [x0,x1].toArray):=by simp [qdm,qdc]
theorem loadB_p3 {x0 x1 x2:Value} {c:List Value} {e:TypeId} {op:Option Nat} {r:Bool}:qdm (some 3) (some (.cells (x0 :: x1 :: x2 :: c) e op r)) 0=some (.agg [x0,x1,x2].toArray):=by simp [qdm,qdc]
theorem loadB_p4 {x0 x1 x2 x3:Value} {c:List Value} {e:TypeId} {op:Option Nat} {r:Bool}:qdm (some 4) (some (.cells (x0 :: x1 :: x2 :: x3 :: c) e op r)) 0=some (.agg [x0,x1,x2,x3].toArray):=by simp [qdm,qdc]
theorem loadB_p5 {x0 x1 x2 x3 x4:Value} {c:List Value} {e:TypeId} {op:Option Nat} {r:Bool}:qdm (some 5) (some (.cells (x0 :: x1 :: x2 :: x3 :: x4 :: c) e op r)) 0=some (.agg [x0,x1,x2,x3,x4].toArray):=by simp [qdm,qdc]
theorem xp_nilc {a:Addr}:qbc .nilc [.pointer (some a)]=some (.pointer (some a)):=_root_.id rfl
theorem shMore:(type_of% @Nat.sub_zero)∧(type_of% @Nat.not_lt_zero)∧(type_of% @loadB_p2)∧(type_of% @loadB_p3)∧(type_of% @loadB_p4)∧(type_of% @loadB_p5)∧(type_of% @xp_nilc)∧(type_of% @xfill_nil)∧(type_of% @xfill_int)∧(type_of% @xfill_bool)∧(type_of% @qpw):=⟨@Nat.sub_zero,@Nat.not_lt_zero,@loadB_p2,@loadB_p3,@loadB_p4,@loadB_p5,@xp_nilc,@xfill_nil,@xfill_int,@xfill_bool,@qpw⟩
end Go.Sim
