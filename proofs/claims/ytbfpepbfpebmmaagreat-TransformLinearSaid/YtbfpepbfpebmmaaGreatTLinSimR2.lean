/- Part of the proof: SimR2. -/
import Derived.ChangeShapes
set_option linter.all false
namespace Go.ChangeShapes
variable {H:Type} {enc:TypeId×Value→H} {P:Program} {w:World} {base:Nat} {spare:Nat→Bool} {held:Bool}
theorem ints_read {fuel:Nat} {e:TypeId} {k:IntKind} (he:P.underlying e=some (.int k)):∀ (cs full:List Value) (s:Nat),full.drop s=cs→∀ xs,((List.range' s cs.length).mapM fun i=>DataW.trod enc P w base spare held fuel e ((full.drop (i*1)).take 1))=some xs →
    ∃ ns:List Int,cs=ns.map (Value.int k)∧xs=ns.map (fun n=>(.lit (.int k n),[]))∧∀ n∈ns,(Lit.int k n).wf=true
  | [],_,_,_,xs,h=>by
    simp at h
    subst h
    exact⟨[],rfl,rfl,by simp⟩
  | c :: cs,full,s,hd,xs,h=>by
    rw [List.length_cons,List.range'_succ,List.mapM_cons] at h
    rw [Nat.mul_one,hd] at h
    cases h0:DataW.trod enc P w base spare held fuel e ((c :: cs).take 1) with
    | none=>rw [h0] at h;simp at h
    | some y =>
      rw [h0] at h
      cases h1:((List.range' (s+1) cs.length).mapM fun i=>DataW.trod enc P w base spare held fuel e ((full.drop (i*1)).take 1)) with
      | none=>rw [h1] at h;simp at h
      | some ys =>
        rw [h1] at h
        simp at h
        obtain⟨ns,q1,q2,q3⟩:=ints_read he cs full (s+1) (by rw [←List.drop_drop,hd];rfl) ys h1
        obtain⟨n,p1,p2,p3⟩:=DataW.trod_int he h0
        simp at p1
        subst p1
        refine⟨n :: ns,by simp [q1],?_,?_⟩
        · rw [←h,q2,List.map_cons]
          congr 1
        · intro x hx
          rcases List.mem_cons.1 hx with rfl|hx
          · exact p3
          · exact q3 x hx
theorem ints_lay {fuel:Nat} {e:TypeId} {k:IntKind} (he:P.underlying e=some (.int k)):∀ (ns:List Int) (full:List Value) (s:Nat),full.drop s=ns.map (Value.int k)→(∀ n∈ns,(Lit.int k n).wf=true) →
    ((List.range' s ns.length).mapM fun i=>DataW.trod enc P w base spare held (fuel+1) e ((full.drop (i*1)).take 1))=some (ns.map (fun n=>(.lit (.int k n),[])))
  | [],_,_,_,_=>by simp
  | n :: ns,full,s,hd,hw=>by
    rw [List.length_cons,List.range'_succ,List.mapM_cons,Nat.mul_one,hd]
    have h0:DataW.trod enc P w base spare held (fuel+1) e ((List.map (Value.int k) (n :: ns)).take 1)=some (.lit (.int k n),[]):=by
      simp [DataW.trod,he,hw n (by simp)]
    rw [h0,ints_lay he ns full (s+1) (by rw [←List.drop_drop,hd];rfl) (fun x hx=>hw x (by simp [hx]))]
    rfl
theorem open_ints_arr {r:Reach} {b0:Nat} {t e:TypeId} {k:IntKind} {N:Nat} {v:Value} {d:DataW H} {ps:List MemPlace} (ht:P.underlying t=some (.array N e)) (he:P.underlying e=some (.int k)) (hce:P.cellsOf e=1) (hct:P.cellsOf t=N)
    (hval:Value.okWide P w r b0 t v) (hd:DataW.Trod enc P w base spare held t v d ps) :
    ∃ ns:List Int,ns.length=N∧v=.agg (ns.map (Value.int k)).toArray∧d=.agg (ns.map fun n=>.lit (.int k n))∧ps=[]∧∀ n∈ns,(Lit.int k n).wf=true:=by
  unfold Value.okWide at hval
  rw [ht] at hval
  obtain⟨cs,rfl,hsz,_⟩:=hval
  obtain⟨fuel,hf⟩:=hd
  cases fuel with
  | zero=>simp [DataW.trod] at hf
  | succ fuel =>
    unfold DataW.trod at hf
    rw [ht] at hf
    simp only [Value.cells,hce] at hf
    rw [hct] at hsz
    have hl:cs.toList.length=N:=by simpa using hsz
    rw [hct] at hf
    rw [if_pos hl] at hf
    cases hx:((List.range N).mapM fun i=>DataW.trod enc P w base spare held fuel e ((cs.toList.drop (i*1)).take 1)) with
    | none=>rw [hx] at hf;simp at hf
    | some xs =>
      rw [hx] at hf
      simp at hf
      rw [List.range_eq_range',←hl] at hx
      obtain⟨ns,h1,h2,h3⟩:=ints_read he cs.toList cs.toList 0 rfl xs hx
      refine⟨ns,?_,?_,?_,?_,h3⟩
      · rw [h1] at hl;simpa using hl
      · congr 1;exact Array.ext' (by simpa using h1)
      · rw [←hf.1,h2];simp
      · rw [←hf.2,h2];simp
theorem shut_ints_arr {t e:TypeId} {k:IntKind} {N:Nat} {ns:List Int} (ht:P.underlying t=some (.array N e)) (he:P.underlying e=some (.int k)) (hce:P.cellsOf e=1) (hct:P.cellsOf t=N) (hl:ns.length=N)
    (hw:∀ n∈ns,(Lit.int k n).wf=true):DataW.Trod enc P w base spare held t (.agg (ns.map (Value.int k)).toArray) (.agg (ns.map fun n=>.lit (.int k n))) []:=by
  refine⟨2,?_⟩
  unfold DataW.trod
  rw [ht]
  have h:=ints_lay (enc:=enc) (P:=P) (w:=w) (base:=base) (spare:=spare) (held:=held) (fuel:=0) he ns (ns.map (Value.int k)) 0 rfl hw
  rw [hl,←List.range_eq_range'] at h
  simp only [Value.cells,hce,hct]
  rw [if_pos (by simpa using hl),h]
  simp
end Go.ChangeShapes
