/- Part of the proof: MpH. -/
import Derived.Test.YtbfpepbfpebmmaaGreatMDisMpG
import Derived.Test.YtbfpepbfpebmmaaGreatMDisMpE
set_option linter.all false
namespace Go.Sim
section
variable {α β:Type} [Fl α] [Fl β] [DecidableEq α] [DecidableEq β]
structure Bit2 (b0 b1:α→β) (two:α) (lift:β→α):Prop where
  add0:∀ x y,b0 (Fl.add x y)=Fl.add (b0 x) (b0 y)
  add1:∀ x y,b1 (Fl.add x y)=Fl.add (b1 x) (b1 y)
  lift0:∀ c x,b0 (Fl.mul (lift c) x)=Fl.mul c (b0 x)
  lift1:∀ c x,b1 (Fl.mul (lift c) x)=Fl.mul c (b1 x)
  dec:∀ c x,Fl.mul c x=Fl.add (Fl.mul (lift (b0 c)) x) (Fl.mul (lift (b1 c)) (Fl.mul two x))
  inj:∀ x y,b0 x=b0 y→b1 x=b1 y→x=y
  zero0:b0 Fl.zero=Fl.zero
  zero1:b1 Fl.zero=Fl.zero
  one1:b1 Fl.one=Fl.zero
  two1:b1 two=Fl.one
variable {b0 b1:α→β} {two:α} {lift:β→α}
def lrep (b0 b1:α→β) (m:Nat) (g h:List β) (x:List α):List β:=x.flatMap fun a=>(List.range m).map fun j=>Fl.add (Fl.mul (b0 a) (g.getD j Fl.zero)) (Fl.mul (b1 a) (h.getD j Fl.zero))
def vrep (b0 b1:α→β) (m:Nat) (g h:List β) (v:Vc α):Vc β:=fun i=>Fl.add (Fl.mul (b0 (v (i / m))) (g.getD (i % m) Fl.zero)) (Fl.mul (b1 (v (i / m))) (h.getD (i % m) Fl.zero))
theorem lrep_len (m:Nat) (g h:List β):∀ x:List α,(lrep b0 b1 m g h x).length=x.length*m
  | []=>by simp [lrep]
  | a :: x=>by
    have:=lrep_len m g h x
    unfold lrep at this ⊢
    rw [List.flatMap_cons,List.length_append,this,List.length_map,List.length_range,List.length_cons,Nat.succ_mul,Nat.add_comm]
theorem lrep_get (B:Bit2 b0 b1 two lift) {m:Nat} (hm:0<m) (g h:List β):∀ (x:List α) (i:Nat),(lrep b0 b1 m g h x).getD i Fl.zero=Fl.add (Fl.mul (b0 (x.getD (i / m) Fl.zero)) (g.getD (i % m) Fl.zero)) (Fl.mul (b1 (x.getD (i / m) Fl.zero)) (h.getD (i % m) Fl.zero))
  | [],i=>by
    simp only [lrep,List.flatMap_nil,List.getD_nil,B.zero0,B.zero1,Fl.zero_mul,Fl.add_zero]
  | a :: x,i=>by
    have ih:=lrep_get B hm g h x
    unfold lrep at ih ⊢
    rw [List.flatMap_cons,List.getD_eq_getElem?_getD]
    by_cases hi:i<m
    · rw [List.getElem?_append_left (by simpa using hi),Nat.div_eq_of_lt hi,Nat.mod_eq_of_lt hi]
      simp [hi]
    · have e1:i / m=(i-m) / m+1:=by
        obtain⟨k,rfl⟩:∃ k,i=k+m:=⟨i-m,by omega⟩
        rw [Nat.add_sub_cancel,Nat.add_div_right _ hm]
      have e2:i % m=(i-m) % m:=by
        obtain⟨k,rfl⟩:∃ k,i=k+m:=⟨i-m,by omega⟩
        rw [Nat.add_sub_cancel,Nat.add_mod_right]
      rw [List.getElem?_append_right (by simp;omega),List.length_map,List.length_range,←List.getD_eq_getElem?_getD,ih,e1,e2]
      simp
theorem toV_rep (B:Bit2 b0 b1 two lift) {m:Nat} (hm:0<m) (g h:List β) (x:List α):toV (lrep b0 b1 m g h x)=vrep b0 b1 m g h (toV x):=funext fun i=>lrep_get B hm g h x i
section
variable (B:Bit2 b0 b1 two lift) {m:Nat} {g h:List β}
include B
theorem vrep_va (u v:Vc α):vrep b0 b1 m g h (va u v)=va (vrep b0 b1 m g h u) (vrep b0 b1 m g h v):=by
  funext i
  unfold vrep va
  rw [B.add0,B.add1,Fl.add_mul,Fl.add_mul,Fl.add_swap]
theorem vrep_vz:vrep b0 b1 m g h (vz:Vc α)=vz:=by
  funext i
  unfold vrep vz
  rw [B.zero0,B.zero1,Fl.zero_mul,Fl.zero_mul,Fl.add_zero]
theorem vrep_vs (c:β) (v:Vc α):vrep b0 b1 m g h (vs (lift c) v)=vs c (vrep b0 b1 m g h v):=by
  funext i
  unfold vrep vs
  rw [B.lift0,B.lift1,Fl.mul_add,Fl.mul_assoc,Fl.mul_assoc]
theorem vs_dec (c:α) (v:Vc α):vs c v=va (vs (lift (b0 c)) v) (vs (lift (b1 c)) (vs two v)):=funext fun j=>B.dec c (v j)
theorem lcat_span (hm:0<m) {n:Nat} {A:List (List α)} (hl:∀ x∈A,x.length=n) (u:Vc β):LSpan ((lcat two A).map (lrep b0 b1 m g h)) u↔∃ v,LSpan A v∧u=vrep b0 b1 m g h v:=by
  have hrow:∀ x∈lcat two A,LSpan ((lcat two A).map (lrep b0 b1 m g h)) (vrep b0 b1 m g h (toV x)):=fun x hx=>by
    rw [←toV_rep B hm];exact LSpan.mem (List.mem_map_of_mem hx)
  constructor
  · intro hu
    refine LSpan.sub (L:=(lcat two A).map (lrep b0 b1 m g h)) (S:=fun u=>∃ v,LSpan A v∧u=vrep b0 b1 m g h v) ⟨vz,Span.zero,(vrep_vz B).symm⟩ ?_ ?_ ?_ hu
    · rintro _ _ ⟨v,hv,rfl⟩ ⟨w,hw,rfl⟩;exact⟨va v w,Span.add hv hw,(vrep_va B v w).symm⟩
    · rintro c _ ⟨v,hv,rfl⟩;exact⟨vs (lift c) v,Span.smul _ hv,(vrep_vs B c v).symm⟩
    · intro y hy
      obtain⟨x,hx,rfl⟩:=List.mem_map.1 hy
      refine⟨toV x,?_,toV_rep B hm g h x⟩
      rcases List.mem_append.1 hx with hx|hx
      · exact LSpan.mem hx
      · obtain⟨z,hz,rfl⟩:=List.mem_map.1 hx
        rw [toV_scale];exact Span.smul _ (LSpan.mem hz)
  · rintro⟨v,hv,rfl⟩
    have key:LSpan ((lcat two A).map (lrep b0 b1 m g h)) (vrep b0 b1 m g h v)∧LSpan ((lcat two A).map (lrep b0 b1 m g h)) (vrep b0 b1 m g h (vs two v)):=by
      refine LSpan.sub (L:=A) (S:=fun v=>LSpan ((lcat two A).map (lrep b0 b1 m g h)) (vrep b0 b1 m g h v)∧LSpan ((lcat two A).map (lrep b0 b1 m g h)) (vrep b0 b1 m g h (vs two v))) ?_ ?_ ?_ ?_ hv
      · rw [vs_vz,vrep_vz B];exact⟨Span.zero,Span.zero⟩
      · rintro a c ⟨h1,h2⟩ ⟨h3,h4⟩
        rw [vs_va,vrep_va B,vrep_va B];exact⟨Span.add h1 h3,Span.add h2 h4⟩
      · rintro c a ⟨h1,h2⟩
        have hc:∀ c,LSpan ((lcat two A).map (lrep b0 b1 m g h)) (vrep b0 b1 m g h (vs c a)):=fun c=>by
          rw [vs_dec B c a,vrep_va B,vrep_vs B,vrep_vs B];exact Span.add (Span.smul _ h1) (Span.smul _ h2)
        refine⟨hc c,?_⟩
        rw [vs_vs];exact hc _
      · intro x hx
        refine⟨hrow x (List.mem_append_left _ hx),?_⟩
        rw [←toV_scale]
        exact hrow _ (List.mem_append_right _ (List.mem_map.2 ⟨x,hx,rfl⟩))
    exact key.1
theorem vrep_piv {G:List (List β)} (hG:LRed m G) (h2:G.length=2) (hg:g=G.getD 0 []) (hh:h=G.getD 1 []) (v:Vc α) (k:Nat) :
    vrep b0 b1 m g h v (k*m+lpiv g)=b0 (v k)∧vrep b0 b1 m g h v (k*m+lpiv h)=b1 (v k):=by
  have hr:=hG.red
  have hp0:lpiv g<m:=by rw [hg];exact hG.piv.2 _ (getD_mem (by omega))
  have hp1:lpiv h<m:=by rw [hh];exact hG.piv.2 _ (getD_mem (by omega))
  have o0:g.getD (lpiv g) Fl.zero=Fl.one:=by rw [hg];exact hr.one 0 (by omega)
  have o1:h.getD (lpiv h) Fl.zero=Fl.one:=by rw [hh];exact hr.one 1 (by omega)
  have a0:h.getD (lpiv g) Fl.zero=Fl.zero:=by rw [hg,hh];exact hr.alone 0 1 (by omega) (by omega) (by omega)
  have a1:g.getD (lpiv h) Fl.zero=Fl.zero:=by rw [hg,hh];exact hr.alone 1 0 (by omega) (by omega) (by omega)
  have hm:0<m:=by omega
  constructor
  · unfold vrep
    rw [Nat.mul_comm k m,Nat.mul_add_div hm,Nat.div_eq_of_lt hp0,Nat.add_zero,Nat.mul_add_mod,Nat.mod_eq_of_lt hp0,o0,a0,Fl.mul_one,Fl.mul_zero,Fl.add_zero]
  · unfold vrep
    rw [Nat.mul_comm k m,Nat.mul_add_div hm,Nat.div_eq_of_lt hp1,Nat.add_zero,Nat.mul_add_mod,Nat.mod_eq_of_lt hp1,o1,a1,Fl.mul_one,Fl.mul_zero,Fl.zero_add]
theorem vrep_inj {G:List (List β)} (hG:LRed m G) (h2:G.length=2) (hg:g=G.getD 0 []) (hh:h=G.getD 1 []) {v w:Vc α} (he:vrep b0 b1 m g h v=vrep b0 b1 m g h w):v=w:=by
  funext k
  have p1:=vrep_piv B hG h2 hg hh v k
  have p2:=vrep_piv B hG h2 hg hh w k
  rw [he] at p1
  exact B.inj _ _ (p1.1.symm.trans p2.1) (p1.2.symm.trans p2.2)
theorem lcat_dim {G:List (List β)} (hG:LRed m G) (h2:G.length=2) (hg:g=G.getD 0 []) (hh:h=G.getD 1 []) (hm:0<m) {n:Nat} {A:List (List α)} (hA:LRed n A):(lreduce ((lcat two A).map (lrep b0 b1 m g h))).length=2*A.length:=by
  have hl:=hA.len
  have hwid:∀ x∈lcat two A,x.length=n:=by
    intro x hx
    rcases List.mem_append.1 hx with h|h
    · exact hl x h
    · obtain⟨y,hy,rfl⟩:=List.mem_map.1 h;rw [List.length_map];exact hl y hy
  have hw:∀ y∈(lcat two A).map (lrep b0 b1 m g h),y.length=n*m:=by
    intro y hy
    obtain⟨x,hx,rfl⟩:=List.mem_map.1 hy
    rw [lrep_len,hwid x hx]
  have hlen:(lcat two A).length=2*A.length:=by simp [lcat];omega
  rw [lreduce_indep hw,List.length_map,hlen]
  intro k hk hs
  rw [List.length_map,hlen] at hk
  have hr:=hA.red
  have e1:((lcat two A).map (lrep b0 b1 m g h)).getD k []=lrep b0 b1 m g h ((lcat two A).getD k []):=by
    simp [List.getD_eq_getElem?_getD,List.getElem?_eq_getElem (show k<(lcat two A).length by omega)]
  rw [e1,toV_rep B hm,←List.map_take] at hs
  -- rows before k
  have hrows:∀ S:Vc α→Prop,S vz→(∀ u v,S u→S v→S (va u v))→(∀ c u,S u→S (vs (lift c) u))→(∀ x∈(lcat two A).take k,S (toV x))→S (toV ((lcat two A).getD k [])):=by
    intro S s0 sa ss sr
    have:∃ v,S v∧vrep b0 b1 m g h (toV ((lcat two A).getD k []))=vrep b0 b1 m g h v:=by
      refine LSpan.sub (L:=((lcat two A).take k).map (lrep b0 b1 m g h)) (S:=fun u=>∃ v,S v∧u=vrep b0 b1 m g h v) ⟨vz,s0,(vrep_vz B).symm⟩ ?_ ?_ ?_ hs
      · rintro _ _ ⟨v,hv,rfl⟩ ⟨w,hw,rfl⟩;exact⟨va v w,sa _ _ hv hw,(vrep_va B v w).symm⟩
      · rintro c _ ⟨v,hv,rfl⟩;exact⟨vs (lift c) v,ss _ _ hv,(vrep_vs B c v).symm⟩
      · intro y hy
        obtain⟨x,hx,rfl⟩:=List.mem_map.1 hy
        exact⟨toV x,sr x hx,toV_rep B hm g h x⟩
    obtain⟨v,hv,he⟩:=this
    rw [vrep_inj B hG h2 hg hh he];exact hv
  have mul0:∀ c:β,Fl.mul (lift c) (Fl.zero:α)=Fl.zero:=fun c=>Fl.mul_zero _
  by_cases hkA:k<A.length
  · have ek:(lcat two A).getD k []=A.getD k []:=by
      unfold lcat;simp [List.getD_eq_getElem?_getD,List.getElem?_append_left hkA]
    have:=hrows (fun u=>u (lpiv (A.getD k []))=Fl.zero) rfl (fun u v hu hv=>by show Fl.add _ _=_;rw [hu,hv,Fl.add_zero]) (fun c u hu=>by show Fl.mul _ _=_;rw [hu,mul0]) (fun x hx=>by
      obtain⟨i,hi,rfl⟩:=List.mem_iff_getElem.1 hx
      have hi':i<k:=by simp at hi;omega
      have h1:=hr.alone k i hkA (by omega) (by omega)
      rw [rowV_at (by omega)] at h1
      simpa [lcat,List.getElem_append_left (show i<A.length by omega)] using h1)
    rw [ek] at this
    exact one_ne_zero' ((hr.one k hkA).symm.trans this)
  · obtain⟨t,rfl⟩:∃ t,k=A.length+t:=⟨k-A.length,by omega⟩
    have ht:t<A.length:=by omega
    have ek:(lcat two A).getD (A.length+t) []=(A.getD t []).map (Fl.mul two):=by
      unfold lcat
      simp [List.getD_eq_getElem?_getD,List.getElem?_append_right,ht]
    have:=hrows (fun u=>b1 (u (lpiv (A.getD t [])))=Fl.zero) B.zero1 (fun u v hu hv=>by show b1 (Fl.add _ _)=_;rw [B.add1,hu,hv,Fl.add_zero]) (fun c u hu=>by show b1 (Fl.mul _ _)=_;rw [B.lift1,hu,Fl.mul_zero]) (fun x hx=>by
      obtain⟨i,hi,rfl⟩:=List.mem_iff_getElem.1 hx
      have hi':i<A.length+t:=by simp at hi;omega
      by_cases hiA:i<A.length
      · have e:((lcat two A).take (A.length+t))[i]=A.getD i []:=by
          rw [getD_at hiA];simp [lcat,List.getElem_append_left hiA]
        rw [e]
        by_cases hit:i=t
        · subst hit
          have h1:=hr.one i hiA
          show b1 (rowV A i (lpiv (A.getD i [])))=_
          rw [h1,B.one1]
        · have h1:=hr.alone t i ht hiA (fun h=>hit h.symm)
          show b1 (rowV A i (lpiv (A.getD t [])))=_
          rw [h1,B.zero1]
      · have e:((lcat two A).take (A.length+t))[i]=(A.getD (i-A.length) []).map (Fl.mul two):=by
          rw [getD_at (by omega)];simp [lcat,List.getElem_append_right (show A.length≤i by omega)]
        rw [e,toV_scale]
        have h1:=hr.alone t (i-A.length) ht (by omega) (by omega)
        show b1 (Fl.mul two (rowV A (i-A.length) (lpiv (A.getD t []))))=_
        rw [h1,Fl.mul_zero,B.zero1])
    rw [ek,toV_scale] at this
    change b1 (Fl.mul two (rowV A t (lpiv (A.getD t []))))=Fl.zero at this
    rw [hr.one t ht,Fl.mul_one,B.two1] at this
    exact one_ne_zero' this
end
theorem lrep_cd {cda:α→Nat} {cdb:β→Nat} (h0:∀ a,cdb (b0 a)=cda a % 2) (h1:∀ a,cdb (b1 a)=cda a / 2) (hz:cdb Fl.zero=0) (hc:∀ x y z w:β,cdb (Fl.add (Fl.mul x y) (Fl.mul z w))=(cdb x*cdb y+cdb z*cdb w) % 2) (m:Nat) (g h:List β) (x:List α) :
    (lrep b0 b1 m g h x).map cdb=repL m (g.map cdb) (h.map cdb) (x.map cda):=by
  have hg:∀ (l:List β) j,(l.map cdb).getD j 0=cdb (l.getD j Fl.zero):=fun l j=>by
    simp only [List.getD_eq_getElem?_getD,List.getElem?_map]
    cases l[j]? with
    | none=>exact hz.symm
    | some a=>rfl
  induction x with
  | nil=>rfl
  | cons a x ih =>
    unfold lrep repL at ih ⊢
    rw [List.flatMap_cons,List.map_append,ih,List.map_cons,List.flatMap_cons,List.map_map]
    congr 1
    refine List.map_congr_left fun j hj=>?_
    show cdb (Fl.add _ _)=repE _ _ _ _
    unfold repE
    rw [hc,h0,h1,hg,hg]
end
open Go Go.Proofs
namespace Pf
theorem fq42:∃ (α β:Type) (i1:Fl α) (i2:Fl β) (_:DecidableEq α) (_:DecidableEq β) (cda:α→Nat) (cdb:β→Nat) (p e p2 e2:Nat) (blk blk2:AB) (b0 b1:α→β) (two:α) (lift:β→α),
    FQ α cda p e (ordM 2) blk∧FQ β cdb p2 e2 2 blk2∧Bit2 b0 b1 two lift∧cda two=2∧(∀ a,cdb (b0 a)=cda a % 2)∧(∀ a,cdb (b1 a)=cda a / 2)∧(∀ x y z w:β,cdb (Fl.add (Fl.mul x y) (Fl.mul z w))=(cdb x*cdb y+cdb z*cdb w) % 2):=by
  letI i4:=flOf ft4
  letI i2:=flOf ft2
  refine⟨{n:Nat // n<2 ^ 2},{n:Nat // n<2 ^ 1},i4,i2,inferInstance,inferInstance,fun x=>x.1,fun x=>x.1,_,_,_,_,_,_,fun a=>⟨a.1 % 2,Nat.mod_lt _ (by decide)⟩,fun a=>⟨a.1 / 2,by have:=a.2;omega⟩,⟨2,by decide⟩,fun c=>⟨c.1,Nat.lt_trans c.2 (by decide)⟩,
    fq_of ft4 rfl (by decide +kernel) (kMake0_ok _ (List.mem_of_getElem? (i:=4) rfl)) (kMakr0_ok _ (List.mem_of_getElem? (i:=4) rfl)),fq_of ft2 rfl (by decide +kernel) (kMake0_ok _ (List.mem_of_getElem? (i:=2) rfl)) (kMakr0_ok _ (List.mem_of_getElem? (i:=2) rfl)),⟨?_,?_,?_,?_,?_,?_,?_,?_,?_,?_⟩,rfl,fun _=>rfl,fun _=>rfl,?_⟩
  · exact fun x y=>Subtype.ext ((by decide +kernel:∀ x,x<2 ^ 2→∀ y,y<2 ^ 2→addF 2 2 x y % 2=addF 2 1 (x % 2) (y % 2)) x.1 x.2 y.1 y.2)
  · exact fun x y=>Subtype.ext ((by decide +kernel:∀ x,x<2 ^ 2→∀ y,y<2 ^ 2→addF 2 2 x y / 2=addF 2 1 (x / 2) (y / 2)) x.1 x.2 y.1 y.2)
  · exact fun c x=>Subtype.ext ((by decide +kernel:∀ c,c<2 ^ 1→∀ x,x<2 ^ 2→mulF 2 2 [1,1] c x % 2=mulF 2 1 [0] c (x % 2)) c.1 c.2 x.1 x.2)
  · exact fun c x=>Subtype.ext ((by decide +kernel:∀ c,c<2 ^ 1→∀ x,x<2 ^ 2→mulF 2 2 [1,1] c x / 2=mulF 2 1 [0] c (x / 2)) c.1 c.2 x.1 x.2)
  · exact fun c x=>Subtype.ext ((by decide +kernel:∀ c,c<2 ^ 2→∀ x,x<2 ^ 2→mulF 2 2 [1,1] c x=addF 2 2 (mulF 2 2 [1,1] (c % 2) x) (mulF 2 2 [1,1] (c / 2) (mulF 2 2 [1,1] 2 x))) c.1 c.2 x.1 x.2)
  · intro x y h1 h2
    have h1:=congrArg Subtype.val h1
    have h2:=congrArg Subtype.val h2
    simp only at h1 h2
    exact Subtype.ext (by omega)
  · rfl
  · exact Subtype.ext (Nat.zero_div 2)
  · exact Subtype.ext (show 1 / 2=0 by decide)
  · first|rfl|exact Subtype.ext (show 2 / 2=1 by decide)
  · exact fun x y z w=>(by decide +kernel:∀ x,x<2 ^ 1→∀ y,y<2 ^ 1→∀ z,z<2 ^ 1→∀ w,w<2 ^ 1→addF 2 1 (mulF 2 1 [0] x y) (mulF 2 1 [0] z w)=(x*y+z*w) % 2) x.1 x.2 y.1 y.2 z.1 z.2 w.1 w.2
end Pf
end Go.Sim
