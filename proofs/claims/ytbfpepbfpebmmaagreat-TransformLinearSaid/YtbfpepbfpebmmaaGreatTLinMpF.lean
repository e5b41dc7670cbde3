/- Part of the proof: MpF. -/
import Derived.Test.YtbfpepbfpebmmaaGreatTLinMoYToMpD
set_option linter.all false
namespace Go.Sim
open Go Go.Proofs
def dig (q:Nat):Nat→Nat→List Nat
  | 0,_=>[]
  | k+1,i=>dig q k (i / q)++[i % q]
theorem qhn (q:Nat):∀ k i,(dig q k i).length=k
  | 0,_=>rfl
  | k+1,i=>by simp [dig,qhn q k]
theorem dig_lt {q:Nat} (hq:0<q):∀ k i,∀ d∈dig q k i,d<q
  | 0,_,d,h=>by simp [dig] at h
  | k+1,i,d,h=>by
    rcases List.mem_append.1 h with h|h
    · exact dig_lt hq k _ d h
    · rw [List.mem_singleton.1 h];exact Nat.mod_lt _ hq
theorem dig_sur' {q:Nat} (hq:0<q):∀ (k:Nat) (ds:List Nat),ds.length=k→(∀ d∈ds,d<q)→∃ i,i<q ^ k∧dig q k i=ds
  | 0,ds,hl,_=>⟨0,by simp,(List.eq_nil_of_length_eq_zero hl).symm⟩
  | k + 1,ds,hl,h=>by
    have hne:ds≠[]:=fun e=>by rw [e] at hl;simp at hl
    obtain⟨d,hd0⟩:∃ d,d=ds.getLast hne:=⟨_,rfl⟩
    have e0:ds.dropLast++[d]=ds:=by rw [hd0];exact List.dropLast_concat_getLast hne
    obtain⟨i,hi,e⟩:=dig_sur' hq k ds.dropLast (by rw [List.length_dropLast,hl];rfl) fun x hx=>h x ((List.dropLast_sublist ds).subset hx)
    have hd:=h d (by rw [hd0];exact List.getLast_mem hne)
    refine⟨i*q+d,?_,?_⟩
    · rw [Nat.pow_succ]
      have:(i+1)*q≤q ^ k*q:=Nat.mul_le_mul_right q hi
      rw [Nat.succ_mul] at this
      omega
    · unfold dig
      have e1:(i*q+d) / q=i:=by rw [Nat.mul_comm,Nat.mul_add_div hq,Nat.div_eq_of_lt hd,Nat.add_zero]
      have e2:(i*q+d) % q=d:=by rw [Nat.mul_comm,Nat.mul_add_mod,Nat.mod_eq_of_lt hd]
      rw [e1,e2,e,e0]
theorem dig_sur {q:Nat} (hq:0<q) (ds:List Nat) (h:∀ d∈ds,d<q):∃ i,i<q ^ ds.length∧dig q ds.length i=ds:=dig_sur' hq _ ds rfl h
theorem dig_inj {q:Nat} (hq:0<q):∀ k i j,i<q ^ k→j<q ^ k→dig q k i=dig q k j→i=j
  | 0,i,j,hi,hj,_=>by simp at hi hj;omega
  | k+1,i,j,hi,hj,h=>by
    unfold dig at h
    obtain⟨h1,h2⟩:=List.append_inj h (by rw [qhn,qhn])
    have h3:i % q=j % q:=by simpa using h2
    have h4:=dig_inj hq k (i / q) (j / q) (Nat.div_lt_of_lt_mul (by rw [Nat.pow_succ,Nat.mul_comm] at hi;exact hi)) (Nat.div_lt_of_lt_mul (by rw [Nat.pow_succ,Nat.mul_comm] at hj;exact hj)) h1
    rw [←Nat.div_add_mod i q,←Nat.div_add_mod j q,h3,h4]
section
variable {α:Type} [Fl α] [DecidableEq α] {cd:α→Nat} {p e b c q:Nat} {blk:AB} {H:AH}
theorem dec_ex (F:FOK α cd p e b c q blk):∃ dec:Nat→α,∀ d,d<q→cd (dec d)=d:=by
  refine⟨fun d=>if h:d<q then Classical.choose (F.sur d h) else Fl.zero,fun d hd=>?_⟩
  simp only [dif_pos hd]
  exact Classical.choose_spec (F.sur d hd)
structure Wds (A:List (List α)) (n q:Nat) (ws:List (List α)):Prop where
  len:ws.length=q ^ A.length
  mem:∀ x∈ws,x.length=n∧LSpan A (toV x)
  all:∀ u,LSpan A u→∃ x∈ws,toV x=u
  nd:ws.Nodup
theorem lcomb_inj {n:Nat} {A:List (List α)} (hA:LRed n A) {ms ms':List α} (h1:ms.length=A.length) (h2:ms'.length=A.length) (h:lcomb n A ms=lcomb n A ms'):ms=ms':=by
  have key:∀ ms:List α,ms.length=A.length→∀ i,i<A.length→toV (lcomb n A ms) (lpiv (A.getD i []))=ms.getD i Fl.zero:=by
    intro ms hm i hi
    have hr:=hA.red
    unfold lcomb
    rw [qgb hA.len _ (Nat.le_refl _)]
    have e1:=hr.coord (qhq (toV ms) (rowV A) A.length)
    have e2:comb (toV ms) (rowV A) A.length (lpiv (A.getD i []))=toV ms i:=by
      rw [qg2]
      have:dotn A.length (toV ms) (fun k=>rowV A k (lpiv (A.getD i [])))=dotn A.length (toV ms) (vun i):=qb7 _ fun j hj=>by
        congr 1
        unfold vun
        by_cases hji:j=i
        · subst hji;rw [if_pos rfl];exact hr.one j hj
        · rw [if_neg hji];exact hr.alone i j hi hj (Ne.symm hji)
      rw [this,qhk _ _ _ hi]
    rw [e2];rfl
  refine List.ext_getElem (by omega) fun i a1 a2=>?_
  have e1:=key ms h1 i (by omega)
  have e2:=key ms' h2 i (by omega)
  rw [h,e2] at e1
  simp only [List.getD_eq_getElem?_getD,List.getElem?_eq_getElem a1,List.getElem?_eq_getElem a2,Option.getD_some] at e1
  exact e1.symm
theorem wds_of (F:FOK α cd p e b c q blk) {n:Nat} {A:List (List α)} (hA:LRed n A) {dec:Nat→α} (hd:∀ d,d<q→cd (dec d)=d):Wds A n q ((List.range (q ^ A.length)).map fun i=>lcomb n A ((dig q A.length i).map dec)):=by
  have hq:=F.q2
  have hq0:0<q:=by omega
  refine⟨by simp,fun x hx=>?_,fun u hu=>?_,?_⟩
  · obtain⟨i,hi,rfl⟩:=List.mem_map.1 hx
    exact⟨qd8 hA.len _ (Nat.le_refl _),lcomb_span hA.len⟩
  · obtain⟨ms,hms⟩:∃ ms:List α,ms=A.map fun x=>u (lpiv x):=⟨_,rfl⟩
    have hml:ms.length=A.length:=by rw [hms,List.length_map]
    obtain⟨i,hi,he⟩:=dig_sur hq0 (ms.map cd) fun d hd=>by obtain⟨a,_,rfl⟩:=List.mem_map.1 hd;exact F.lt a
    rw [List.length_map,hml] at hi he
    refine⟨lcomb n A ((dig q A.length i).map dec),List.mem_map.2 ⟨i,List.mem_range.2 hi,rfl⟩,?_⟩
    have e1:(dig q A.length i).map dec=ms:=by
      rw [he,List.map_map]
      conv=>rhs;rw [←List.map_id ms]
      exact List.map_congr_left fun a _=>F.inj _ _ (hd _ (F.lt a))
    rw [e1]
    unfold lcomb
    rw [qgb hA.len _ (Nat.le_refl _),hA.red.coord hu]
    refine qkx _ fun j hj=>?_
    show ms.getD j Fl.zero=u (lpiv (A.getD j []))
    rw [hms]
    simp [List.getD_eq_getElem?_getD,List.getElem?_eq_getElem hj]
  · rw [List.Nodup,List.pairwise_map]
    refine List.Pairwise.imp_of_mem ?_ (List.nodup_range (n:=q ^ A.length))
    intro i j hi hj hne he
    have h1:=lcomb_inj hA (by rw [List.length_map,qhn]) (by rw [List.length_map,qhn]) he
    refine hne (dig_inj hq0 A.length i j (List.mem_range.1 hi) (List.mem_range.1 hj) ?_)
    have h2:=congrArg (List.map cd) h1
    rw [List.map_map,List.map_map] at h2
    have e:∀ i,(dig q A.length i).map (cd∘dec)=dig q A.length i:=fun i=>by
      conv=>rhs;rw [←List.map_id (dig q A.length i)]
      exact List.map_congr_left fun d hd'=>hd d (dig_lt hq0 _ _ d hd')
    rwa [e,e] at h2
theorem keep_gc {P:Program} {f:FuncId} {args:List Value} {H:AH} {R:Value→Prop} (h:FN P f args H (fun v H'=>R v∧ground v=true∧Pre H H')):FN P f args H (fun v H'=>R v∧H'=H):=
  FN.gc0 (h.mono fun v H' ⟨h1,h2,h3⟩=>⟨h1,h2,Keep.split ⟨h3.len,h3⟩⟩)
def lwt (x:List α):Nat:=(x.filter fun a=>decide (a≠Fl.zero)).length
theorem lwt_le (x:List α):lwt x≤x.length:=List.length_filter_le _ _
end
end Go.Sim
