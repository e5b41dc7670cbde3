/- Part of the proof: SimC, SimD, SimE, SimF. -/
import Derived.Test.YtbfpepbfpebmmaaGreatTLinSimB
import Derived.Laws.Append
import Derived.Laws.AppendOwn
import Derived.Laws.CopyRow
import Derived.Laws.MakeOwn
import Derived.Laws.Slices
import Derived.Laws.Entries
set_option linter.all false
namespace Go.Sim
open Go
theorem qf1 (b o j:Nat):(⟨b,o,none⟩:Addr).add j=⟨b,o+j,none⟩:=by
  unfold Addr.add
  split<;>simp_all
theorem pick_list {i:Inj} {C:Nat→Value→Prop}:∀ (xs:List Value) (o:Nat),(∀ k v,xs[k]? = some v→∃ v',C (o+k) v'∧VR i v v') →
    ∃ l',VRs i xs l'∧∀ j v,l'[j]? = some v→C (o+j) v
  | [],_,_=>⟨[],.nil,fun j v h=>by simp at h⟩
  | x :: xs,o,h=>by
    obtain⟨x',h1,h2⟩:=h 0 x rfl
    obtain⟨l',h3,h4⟩:=pick_list xs (o+1) (fun k v hk=>by
      obtain⟨v',a,b⟩:=h (k+1) v (by simpa using hk)
      exact⟨v',by rw [Nat.add_assoc,Nat.add_comm 1 k];exact a,b⟩)
    refine⟨x' :: l',.cons h2 h3,fun j v hj=>?_⟩
    cases j with
    | zero=>simp at hj;subst hj;exact h1
    | succ j =>
      have:=h4 j v (by simpa using hj)
      rwa [Nat.add_assoc,Nat.add_comm 1 j] at this
theorem Rel.row {i:Inj} {H:AH} {w:World} (h:Rel i H w) {b:Nat} {L:Loc} {c:List Value} {e:TypeId} {o:Option Nat} {r:Bool} (hb:i b=some L) (hH:H[b]? = some (.cells c e o r)) (off n:Nat) (hn:off+n≤c.length) :
    ∃ l',VRs i ((c.drop off).take n) l'∧l'.length=n∧∀ j v,l'[j]? = some v→w.cell? ((⟨L.blk,L.base+off,none⟩:Addr).add j)=some v:=by
  obtain⟨l',h1,h2⟩:=pick_list (i:=i) (C:=fun k v=>w.cell? ⟨L.blk,L.base+k,none⟩=some v) ((c.drop off).take n) off (fun k v hk=>by
    rw [List.getElem?_take] at hk
    split at hk
    · rw [List.getElem?_drop] at hk;exact h.cell hb hH hk
    · cases hk)
  refine⟨l',h1,?_,fun j v hj=>?_⟩
  · have:=h1.length
    simp at this
    omega
  · rw [qf1,Nat.add_assoc];exact h2 j v hj
def eload (P:Program) (H:AH) (t:TypeId) (a:Addr):Option Value:=
  match H[a.block]?,a.spot with
  | some (.cells c _ _ _),none =>
    if (P.underlying t).isNone then none else
    if aggT P t then
      match szT P t with
      | some n=>if a.off+n≤c.length then some (.agg ((c.drop a.off).take n).toArray) else none
      | none=>none
    else c[a.off]?
  | _,_=>none
theorem VRs.arr {i:Inj} {l l':List Value} (h:VRs i l l'):VR i (.agg l.toArray) (.agg l'.toArray):=
  .agg (by simp [h.length]) (fun k h1 h2=>by simpa using h.at_ k (by simpa using h1) (by simpa using h2))
theorem VRs.tup {i:Inj} {l l':List Value} (h:VRs i l l'):VR i (.tuple l.toArray) (.tuple l'.toArray):=
  .tuple (by simp [h.length]) (fun k h1 h2=>by simpa using h.at_ k (by simpa using h1) (by simpa using h2))
theorem run_load' {P:Program} {w:World} {a:Addr} {v:Value} (h:w.cell? a=some v):(load a).run P w=.ok v w:=by
  simp [load,Sem.run,h]
theorem qrb {P:Program} {i:Inj} {H:AH} {w:World} (h:Rel i H w) {t:TypeId} {a:Addr} {L:Loc} {v:Value} (hb:i a.block=some L) (hv:eload P H t a=some v) :
    ∃ v',VR i v v'∧(loadVar t ⟨L.blk,L.base+a.off,none⟩).run P w=.ok v' w:=by
  unfold eload at hv
  split at hv
  · rename_i c e o r hH hsp
    cases hu:P.underlying t with
    | none=>simp [hu] at hv
    | some d =>
      simp only [hu,Option.isNone_some,if_false,Bool.false_eq_true] at hv
      by_cases ha:aggT P t=true
      · simp only [ha,if_true] at hv
        cases hs:szT P t with
        | none=>simp [hs] at hv
        | some n =>
          simp only [hs] at hv
          by_cases hn:a.off+n≤c.length
          · rw [if_pos hn] at hv
            cases hv
            obtain⟨l',h1,h2,h3⟩:=h.row hb hH a.off n hn
            refine⟨.agg l'.toArray,h1.arr,?_⟩
            have hl:=run_loadCells_list (P:=P) w ⟨L.blk,L.base+a.off,none⟩ l' h3
            rw [h2] at hl
            simp [loadVar,Sem.run_bind,qh3 P hu,ha,qbw P hs,hl]
          · rw [if_neg hn] at hv;cases hv
      · simp only [ha,if_false,Bool.false_eq_true] at hv
        obtain⟨v',h1,h2⟩:=h.cell hb hH hv
        refine⟨v',h2,?_⟩
        simp only [loadVar,Sem.run_bind,qh3 P hu,Result.andThen_ok]
        rw [if_neg ha]
        exact run_load' h1
  · cases hv
theorem runSim_load {P:Program} {t:TypeId} {x:Operand} {o:Oper} (ho:o.op=.load t x) {a:Addr} {v:Value} {H:AH} (h:eload P H t a=some v):RunSim P o [.pointer (some a)] H v H:=by
  intro i w vs' hr hv ρ hρ
  obtain⟨u',rfl,hu⟩:=hv.one
  rw [ho] at hρ
  simp [Op.operands] at hρ
  cases hu with
  | ptr hb hs =>
    obtain⟨v',h1,h2⟩:=qrb hr hb h
    refine⟨i,w,v',.refl hr,hr,h1,.inl ?_⟩
    unfold execOp
    rw [ho]
    simp [hρ,Instr.loadAt,Instr.sureAddr,h2]
def NewSim (P:Program) (o:Oper) (vs:List Value) (c:List Value) (e:TypeId) (mk:Nat→Value):Prop:=
  (∀ (i:Inj) (b n:Nat),i b=some ⟨n,0,0,0⟩→VR i (mk b) (mk n))∧(∀ d,o.op≠.defer d) ∧
  ∀ (i:Inj) (w:World) (vs':List Value),VRs i vs vs'→∀ ρ:Operand→Value,o.op.operands.toList.map ρ=vs' →
    ∃ c',VRs i c c'∧(execOp ρ o).run P w=.ok (.value (mk w.heap.size)) (w.alloc (.cells c'.toArray e))
theorem NewSim.run {P:Program} {o:Oper} {vs:List Value} {H:AH} {c:List Value} {e:TypeId} {mk:Nat→Value} (h:NewSim P o vs c e mk):RunSim P o vs H (mk H.length) (H++[.cells c e none false]):=by
  intro i w vs' hr hv ρ hρ
  obtain⟨c',h1,h2⟩:=h.2.2 i w vs' hv ρ hρ
  exact⟨_,_,_,ext_new hr _ (.cells c'.toArray e) 0 0,qpf hr _ _ 0 0 (blkR_cells (h1.mono (Inj.le_upd hr.none_at)) e w 0),h.1 _ _ _ (Inj.upd_same i _ _),.inl h2⟩
abbrev mkPtr (b:Nat):Value:=.pointer (some ⟨b,0,none⟩)
abbrev mkSl (l m b:Nat):Value:=.slice (some ⟨b,0,none⟩) l m
theorem mkPtr_rel (i:Inj) (b n:Nat) (h:i b=some ⟨n,0,0,0⟩):VR i (mkPtr b) (mkPtr n):=.ptr (a:=⟨b,0,none⟩) (L:=⟨n,0,0,0⟩) h rfl
theorem mkSl_rel (l m:Nat) (i:Inj) (b n:Nat) (h:i b=some ⟨n,0,0,0⟩):VR i (mkSl l m b) (mkSl l m n):=.slice (a:=⟨b,0,none⟩) (L:=⟨n,0,0,0⟩) h rfl (.inl rfl)
theorem qqj {P:Program} (w:World) (t:TypeId) (v:Value):(newVar t v).run P w=.ok ⟨w.heap.size,0,none⟩ (w.alloc (.cells v.cells t)):=by
  rfl
theorem newSim_alloc {P:Program} {e:TypeId} {o:Oper} (ho:o.op=.alloc e) {z:Value} (hz:zeroT P e=some z) (hg:ground z=true):NewSim P o [] z.cells.toList e mkPtr:=by
  refine⟨mkPtr_rel,by rw [ho];simp,fun i w vs' hv ρ hρ=>⟨z.cells.toList,(VR.of_ground hg i).cells,?_⟩⟩
  unfold execOp
  rw [ho]
  simp [Instr.alloc,qj8 P hz,qqj]
theorem newSim_box {P:Program} {e:TypeId} {x:Operand} {o:Oper} (ho:o.op=.box e x) {v:Value}:NewSim P o [v] v.cells.toList e mkPtr:=by
  refine⟨mkPtr_rel,by rw [ho];simp,fun i w vs' hv ρ hρ=>?_⟩
  obtain⟨v',rfl,h⟩:=hv.one
  rw [ho] at hρ
  simp [Op.operands] at hρ
  refine⟨v'.cells.toList,h.cells,?_⟩
  unfold execOp
  rw [ho]
  simp [Instr.box,hρ,qqj]
def one:Value→Bool
  | .agg _ | .tuple _=>false
  | _=>true
theorem VR.one_eq {i:Inj} {v v':Value} (h:VR i v v'):one v'=one v:=by cases h<;>rfl
theorem one_cell' {v:Value} (h:one v=true):v.oneCell'=true:=by cases v<;>simp_all [one,Value.oneCell']
def qcq (c:List Value) (off:Nat) (vs:List Value):List Value:=c.take off++vs++c.drop (off+vs.length)
theorem qj5 (c:List Value) (off:Nat) (vs:List Value) (h:off+vs.length≤c.length):(qcq c off vs).length=c.length:=by
  simp [qcq];omega
theorem qgc (c vs:List Value) (off k:Nat) (h:off+vs.length≤c.length) :
    (qcq c off vs)[k]? = if off≤k∧k<off+vs.length then vs[k-off]? else c[k]?:=by
  unfold qcq
  by_cases h1:k<off
  · rw [if_neg (by omega),List.append_assoc,List.getElem?_append_left (by simp;omega),List.getElem?_take,if_pos h1]
  · by_cases h2:k<off+vs.length
    · rw [if_pos ⟨by omega,h2⟩,List.append_assoc,List.getElem?_append_right (by simp;omega),List.getElem?_append_left (by simp;omega)]
      congr 1
      simp;omega
    · rw [if_neg (by omega),List.getElem?_append_right (by simp;omega),List.getElem?_drop]
      congr 1
      simp;omega
theorem rel_row {i:Inj} {H:AH} {w:World} (h:Rel i H w) {b:Nat} {L:Loc} {c d:List Value} {e:TypeId} {o:Option Nat} (hb:i b=some L) (hH:H[b]? = some (.cells c e o false)) {c':Array Value} {d':Array Value}
    (hw:w.heap[L.blk]? = some (.cells c' e (0,0))) (hl:d.length=c.length) (hs:d'.size=c'.size) (hd:∀ (k:Nat) (v:Value),d[k]? = some v→∃ v',d'[k]? = some v'∧VR i v v') :
    Rel i (H.set b (.cells d e o false)) (w.setRow L.blk d')∧Ext i i H (H.set b (.cells d e o false)) w (w.setRow L.blk d'):=by
  obtain⟨c1,e',fr,h1,h2,h3,h4⟩:=h.blk b L _ hb hH
  obtain⟨b0,rfl,rfl,hsz⟩:=h3 rfl
  rw [hw] at h1
  cases h1
  have hbl:b<H.length:=h.dom b L hb
  refine⟨⟨fun n M hn=>by simpa using h.dom n M hn,fun n M x hn hx=>?_,fun b1 b2 L1 L2 x1 x2 f1 f2 g1 g2 o1 l2 hL=>?_⟩,?_⟩
  · by_cases hnb:n=b
    · subst hnb
      rw [hb] at hn
      cases hn
      rw [List.getElem?_set_self hbl] at hx
      cases hx
      refine⟨d',e',(0,0),setRow_heap w L.blk c' d' e' _ hw,fun m y hm=>?_,fun _=>⟨b0,rfl,rfl,by omega⟩,h4⟩
      rw [b0,Nat.zero_add]
      exact hd m y hm
    · rw [List.getElem?_set_ne (Ne.symm hnb)] at hx
      have hr:=h.blk n M x hn hx
      by_cases hxl:x.live=true
      · refine hr.heap (setRow_other w _ _ _ ?_)
        intro hM
        exact hnb (h.inj b n L M _ x hb hn hH hx rfl hxl hM.symm).symm
      · cases x<;>simp [AB.live] at hxl
        trivial
  · have back:∀ (n:Nat) (y:AB),(H.set b (.cells d e' o false))[n]? = some y→∃ z:AB,H[n]? = some z∧z.owned=y.owned∧z.live=y.live:=by
      intro n y hy
      by_cases hnb:n=b
      · subst hnb
        rw [List.getElem?_set_self hbl] at hy
        cases hy
        exact⟨_,hH,rfl,rfl⟩
      · rw [List.getElem?_set_ne (Ne.symm hnb)] at hy
        exact⟨y,hy,rfl,rfl⟩
    obtain⟨z1,p1,q1,_⟩:=back b1 x1 g1
    obtain⟨z2,p2,_,q2⟩:=back b2 x2 g2
    exact h.inj b1 b2 L1 L2 z1 z2 f1 f2 p1 p2 (q1.trans o1) (q2.trans l2) hL
  · refine⟨h.dom,i.le_refl,rfl,rfl,rfl,by simp,by simp,fun n x' hn hx ho=>?_,fun n hn hno=>?_,fun n hn hi=>?_,fun n M hn=>.inl hn⟩
    · by_cases hnb:n=b
      · subst hnb;exact⟨_,hH,rfl⟩
      · rw [List.getElem?_set_ne (Ne.symm hnb)] at hx;exact⟨x',hx,ho⟩
    · exact setRow_other w _ _ _ (fun hM=>hno b L _ hb hH rfl hM.symm)
    · refine List.getElem?_set_ne (fun hnb=>?_)
      subst hnb;rw [hb] at hi;cases hi
theorem qdz {P:Program} {i:Inj} {H:AH} {w:World} (h:Rel i H w) {b:Nat} {L:Loc} {c:List Value} {e:TypeId} {o:Option Nat} (hb:i b=some L) (hH:H[b]? = some (.cells c e o false)) {off:Nat} {vs vs':List Value}
    (hv:VRs i vs vs') (h1:vs.all one=true) (hn:off+vs.length≤c.length) :
    ∃ w',L.base=0∧(storeCells ⟨L.blk,off,none⟩ vs').run P w=.ok () w'∧Rel i (H.set b (.cells (qcq c off vs) e o false)) w'∧Ext i i H (H.set b (.cells (qcq c off vs) e o false)) w w':=by
  obtain⟨c',e',fr,g1,g2,g3,g4⟩:=h.blk b L _ hb hH
  obtain⟨b0,rfl,rfl,hsz⟩:=g3 rfl
  have hlen:=hv.length
  have hone:∀ v∈vs',v.oneCell'=true:=by
    intro v hv'
    obtain⟨k,hk,rfl⟩:=List.mem_iff_getElem.1 hv'
    have hr:=hv.at_ k (by omega) hk
    refine one_cell' ?_
    rw [hr.one_eq]
    exact List.all_eq_true.1 h1 _ (List.getElem_mem _)
  have hst:=run_storeCells_at P L.blk off e' vs' 0 c' w g1 (by omega) hone
  simp only [Nat.add_zero] at hst
  refine⟨_,b0,hst,rel_row h hb hH g1 (qj5 c off vs hn) (by simp;omega) (fun k v hk=>?_)⟩
  rw [qgc c vs off k hn] at hk
  have hcat:(c'.toList.take off++vs'++c'.toList.drop (off+vs'.length))=qcq c'.toList off vs':=rfl
  rw [hcat,List.getElem?_toArray,qgc c'.toList vs' off k (by simp;omega),←hlen]
  by_cases hin:off≤k∧k<off+vs.length
  · rw [if_pos hin] at hk ⊢
    exact hv.get hk
  · rw [if_neg hin] at hk ⊢
    obtain⟨v',q1,q2⟩:=g2 k v hk
    rw [b0,Nat.zero_add] at q1
    exact⟨v',by simpa using q1,q2⟩
def estore (P:Program) (H:AH) (t:TypeId) (a:Addr) (v:Value):Option AH:=
  match H[a.block]?,a.spot with
  | some (.cells c e o false),none =>
    if szT P t=some v.cells.size∧v.cells.toList.all one∧a.off+v.cells.size≤c.length then some (H.set a.block (.cells (qcq c a.off v.cells.toList) e o false)) else none
  | _,_=>none
theorem VR.cells_size {i:Inj} {v v':Value} (h:VR i v v'):v'.cells.size=v.cells.size:=by
  have:=h.cells.length
  simpa using this.symm
theorem runSim_store {P:Program} {t:TypeId} {x y:Operand} {o:Oper} (ho:o.op=.store t x y) {a:Addr} {v:Value} {H H':AH} (h:estore P H t a v=some H'):RunSim P o [.pointer (some a),v] H undef H':=by
  intro i w vs' hr hv ρ hρ
  obtain⟨u',v',rfl,hu,hv'⟩:=hv.two
  rw [ho] at hρ
  simp [Op.operands] at hρ
  cases hu with
  | ptr hb hs =>
    rename_i L
    unfold estore at h
    split at h
    · rename_i c e op hH hsp
      split at h
      · rename_i hc
        cases h
        obtain⟨c1,c2,c3⟩:=hc
        obtain⟨w',b0,h1,h2,h3⟩:=qdz (P:=P) hr hb hH hv'.cells c2 (by simpa using c3)
        refine⟨i,w',undef,h3,h2,VR.undef i,.inr ⟨?_,rfl⟩⟩
        unfold execOp
        rw [ho]
        have hsz:=hv'.cells_size
        simp only [hρ.1,hρ.2,Instr.storeAt,Instr.sureAddr,storeVar,Sem.run_bind,Sem.run_pure,Result.andThen_ok,qbw P c1,hsz,ne_eq,not_true_eq_false,if_false,b0,Nat.zero_add,h1]
      · cases h
    · cases h
end Go.Sim

namespace Go.Sim
open Go
theorem qn1 {P:Program} {s:TypeId} {x:Operand} {f:Nat} {o:Oper} (ho:o.op=.fieldAddr s x f) {a:Addr} {H:AH} {off:Nat} {ft:TypeId} (h:fldT P s f=some (off,ft)) :
    RunSim P o [.pointer (some a)] H (.pointer (some ⟨a.block,a.off+off,none⟩)) H:=by
  refine RunSim.pure_ fun i vs' hv ρ hρ=>?_
  obtain⟨u',rfl,hu⟩:=hv.one
  rw [ho] at hρ
  simp [Op.operands] at hρ
  cases hu with
  | ptr hb _ =>
    rename_i L
    unfold fldT at h
    split at h
    · rename_i fs hu
      split at h
      · rename_i fx hf
        split at h
        · rename_i ti hti
          split at h
          · cases h
          · rename_i hz
            simp at h
            obtain⟨rfl,rfl⟩:=h
            refine⟨_,.ptr (a:=⟨a.block,a.off+fx.offset,none⟩) hb rfl,fun w=>?_⟩
            unfold execOp
            rw [ho]
            have hsz:szT P fx.type=some ti.size:=by simp [szT,hti]
            simp only [hρ,Instr.fieldAt,Sem.run_bind,qbj P hu,Result.andThen_ok,hf,Instr.sureAddr,Sem.run_pure,fieldPlace,qbw P hsz,hz,if_false,qf1,Nat.add_assoc]
        · cases h
      · cases h
    · cases h
def eindex (P:Program) (t:TypeId) (x:Value) (n:Int):Option Value:=
  match x with
  | .pointer (some a)=>match arrT P t,a.spot with
    | some (len,e),none=>match szT P e with
      | some sz=>if 0≤n∧n<len then some (.pointer (some ⟨a.block,a.off+n.toNat*sz,none⟩)) else none
      | none=>none
    | _,_=>none
  | .slice (some a) l _=>match slT P t,a.spot with
    | some e,none=>match szT P e with
      | some sz=>if 0≤n∧n<l then some (.pointer (some ⟨a.block,a.off+n.toNat*sz,none⟩)) else none
      | none=>none
    | _,_=>none
  | _=>none
theorem qg6 {P:Program} {t:TypeId} {x y:Operand} {o:Oper} (ho:o.op=.indexAddr t x y) {u r:Value} {k:IntKind} {n:Int} {H:AH} (h:eindex P t u n=some r):RunSim P o [u,.int k n] H r H:=by
  refine RunSim.pure_ fun i vs' hv ρ hρ=>?_
  obtain⟨u',n',rfl,hu,hn⟩:=hv.two
  cases hn
  rw [ho] at hρ
  simp [Op.operands] at hρ
  unfold eindex at h
  split at h
  · rename_i a
    cases hu with
    | ptr hb hs =>
      rename_i L
      split at h
      · rename_i len e ha _
        split at h
        · rename_i sz hsz
          split at h
          · rename_i hc
            cases h
            unfold arrT at ha
            split at ha
            · rename_i m e' hu
              cases ha
              refine⟨_,.ptr (a:=⟨a.block,a.off+n.toNat*sz,none⟩) hb rfl,fun w=>?_⟩
              unfold execOp
              rw [ho]
              simp [hρ.1,hρ.2,Instr.indexAt,asIntOf,qbj P hu,Instr.sureAddr,hc.1,hc.2,qbw P hsz,qf1,Nat.add_assoc]
            · cases ha
          · cases h
        · cases h
      · cases h
  · rename_i a l c
    split at h
    · rename_i e ha hsp
      split at h
      · rename_i sz hsz
        split at h
        · rename_i hc
          cases h
          unfold slT at ha
          split at ha
          · rename_i e' hut
            cases ha
            cases hu with
            | slice hb hs hcc =>
              rename_i L c'
              refine⟨_,.ptr (a:=⟨a.block,a.off+n.toNat*sz,none⟩) hb rfl,fun w=>?_⟩
              unfold execOp
              rw [ho]
              simp [hρ.1,hρ.2,Instr.indexAt,asIntOf,qbj P hut,hc.1,hc.2,qbw P hsz,qf1,Nat.add_assoc]
            | vague hs =>
              rw [hsp] at hs;cases hs
          · cases ha
        · cases h
      · cases h
    · cases h
  · cases h
def bnds (lo hi:Bool) (vs:List Value):Option (Option Int×Option Int):=
  match lo,hi,vs with
  | false,false,[]=>some (none,none)
  | true,false,[.int _ l]=>some (some l,none)
  | false,true,[.int _ h]=>some (none,some h)
  | true,true,[.int _ l,.int _ h]=>some (some l,some h)
  | _,_,_=>none
def qrw (P:Program) (t:TypeId) (x:Value) (lo hi:Option Int):Option Value:=
  match x with
  | .pointer (some a)=>match arrT P t,a.spot with
    | some (n,e),none=>match szT P e with
      | some sz=>if 0≤lo.getD 0∧lo.getD 0≤hi.getD n∧hi.getD n≤n then
          some (.slice (some (if n=(lo.getD 0).toNat then a else⟨a.block,a.off+(lo.getD 0).toNat*sz,none⟩)) ((hi.getD n).toNat-(lo.getD 0).toNat) (n-(lo.getD 0).toNat)) else none
      | none=>none
    | _,_=>none
  | .slice none 0 0=>if ((slT P t).bind (szT P)).isSome∧lo.getD 0=0∧hi.getD 0=0 then some (.slice none 0 0) else none
  | .slice (some a) l c=>match slT P t,a.spot with
    | some e,none=>match szT P e with
      | some sz=>if 0≤lo.getD 0∧lo.getD 0≤hi.getD l∧hi.getD l≤c then
          (if lo.getD 0=0 then some (.slice (some a) (hi.getD l).toNat c)
           else if lo.getD 0<c then some (.slice (some ⟨a.block,a.off+(lo.getD 0).toNat*sz,none⟩) ((hi.getD l).toNat-(lo.getD 0).toNat) (c-(lo.getD 0).toNat))
           else some (.slice (some ⟨a.block,a.off,some 0⟩) 0 0)) else none
      | none=>none
    | _,_=>none
  | _=>none
theorem qfn {P:Program} (w:World) (isS:Bool) (len cap:Nat) {lo hi:Option Value} {l h:Option Int} (hl:(lo=none∧l=none)∨∃ k n,lo=some (.int k n)∧l=some n) (hh:(hi=none∧h=none)∨∃ k n,hi=some (.int k n)∧h=some n)
    (h0:0≤l.getD 0) (h1:l.getD 0≤h.getD len) (h2:h.getD len≤cap) :
    (Instr.sliceBounds isS len cap lo hi none).run P w=.ok ((l.getD 0).toNat,(h.getD len).toNat,cap) w:=by
  have nn:0≤h.getD len:=by omega
  rcases hl with ⟨rfl,rfl⟩|⟨k,n,rfl,rfl⟩<;>rcases hh with ⟨rfl,rfl⟩|⟨k2,m,rfl,rfl⟩
  · simp [Instr.sliceBounds]
  · simp only [Option.getD_some] at h1 h2 nn
    simp [Instr.sliceBounds,run_sliceBound w k2 m cap _ nn h2]
  · simp only [Option.getD_some,Option.getD_none] at h0 h1
    simp [Instr.sliceBounds,run_sliceBound w k n len _ h0 h1]
  · simp only [Option.getD_some] at h0 h1 h2 nn
    have e:((m.toNat:Nat):Int)=m:=Int.toNat_of_nonneg nn
    simp [Instr.sliceBounds,run_sliceBound w k2 m cap _ nn h2,run_sliceBound w k n m.toNat _ h0 (by omega)]
theorem VR.int_inv {i:Inj} {k:IntKind} {n:Int} {v:Value} (h:VR i (.int k n) v):v=.int k n:=by cases h;rfl
theorem qmz {P:Program} {t:TypeId} {x:Operand} {lo hi:Option Operand} {o:Oper} (ho:o.op=.slice t x lo hi none) {u r:Value} {vs:List Value} {l h:Option Int} {H:AH}
    (hb:bnds lo.isSome hi.isSome vs=some (l,h)) (hr:qrw P t u l h=some r):RunSim P o (u :: vs) H r H:=by
  refine RunSim.pure_ fun i vs' hv ρ hρ=>?_
  -- the bounds on the world's side
  obtain⟨u',hu,he,hlo,hhi⟩:∃ u',VR i u u'∧ρ x=u'∧((lo.map ρ=none∧l=none)∨∃ k n,lo.map ρ=some (.int k n)∧l=some n)∧((hi.map ρ=none∧h=none)∨∃ k n,hi.map ρ=some (.int k n)∧h=some n):=by
    rw [ho] at hρ
    cases hv with
    | cons hu hrest =>
      unfold bnds at hb
      split at hb
      · rename_i e1 e2
        cases hb
        cases hrest
        simp at e1 e2
        subst e1 e2
        simp [Op.operands] at hρ
        exact⟨_,hu,hρ,.inl ⟨rfl,rfl⟩,.inl ⟨rfl,rfl⟩⟩
      · rename_i k n e1 e2
        cases hb
        cases hrest with
        | cons h1 h2 =>
          cases h2
          have:=h1.int_inv
          subst this
          obtain⟨lx,rfl⟩:=Option.isSome_iff_exists.1 e1
          simp at e2
          subst e2
          simp [Op.operands] at hρ
          exact⟨_,hu,hρ.1,.inr ⟨k,n,by simp [hρ.2],rfl⟩,.inl ⟨rfl,rfl⟩⟩
      · rename_i k n e1 e2
        cases hb
        cases hrest with
        | cons h1 h2 =>
          cases h2
          have:=h1.int_inv
          subst this
          obtain⟨lx,rfl⟩:=Option.isSome_iff_exists.1 e2
          simp at e1
          subst e1
          simp [Op.operands] at hρ
          exact⟨_,hu,hρ.1,.inl ⟨rfl,rfl⟩,.inr ⟨k,n,by simp [hρ.2],rfl⟩⟩
      · rename_i k n k2 m e1 e2
        cases hb
        cases hrest with
        | cons h1 h2 =>
          cases h2 with
          | cons h3 h4 =>
            cases h4
            have:=h1.int_inv
            subst this
            have:=h3.int_inv
            subst this
            obtain⟨lx,rfl⟩:=Option.isSome_iff_exists.1 e1
            obtain⟨hx,rfl⟩:=Option.isSome_iff_exists.1 e2
            simp [Op.operands] at hρ
            exact⟨_,hu,hρ.1,.inr ⟨k,n,by simp [hρ.2.1],rfl⟩,.inr ⟨k2,m,by simp [hρ.2.2],rfl⟩⟩
      · cases hb
  have hex:∀ w v,(Instr.sliceAt t u' (lo.map ρ) (hi.map ρ) none).run P w=.ok v w→(execOp ρ o).run P w=.ok (.value v) w:=by
    intro w v hv
    unfold execOp
    rw [ho]
    simp only [he,Option.map_none,Sem.run_bind,hv,Result.andThen_ok,Sem.run_pure]
  unfold qrw at hr
  split at hr
  · rename_i a
    cases hu with
    | ptr hb hs =>
      rename_i L
      split at hr
      · rename_i n e ha _
        split at hr
        · rename_i sz hsz
          split at hr
          · rename_i hc
            cases hr
            unfold arrT at ha
            split at ha
            · rename_i m e' hut
              cases ha
              have hB:=fun w=>qfn (P:=P) w false n n hlo hhi hc.1 hc.2.1 hc.2.2
              refine⟨.slice (some (if n=(l.getD 0).toNat then (⟨L.blk,L.base+a.off,none⟩:Addr) else⟨L.blk,L.base+a.off+(l.getD 0).toNat*sz,none⟩)) ((h.getD n).toNat-(l.getD 0).toNat) (n-(l.getD 0).toNat),?_,fun w=>hex w _ ?_⟩
              · split
                · exact .slice hb hs (.inl rfl)
                · rw [Nat.add_assoc];exact .slice (a:=⟨a.block,a.off+(l.getD 0).toNat*sz,none⟩) hb rfl (.inl rfl)
              · simp only [Instr.sliceAt,Sem.run_bind,qbj P hut,Result.andThen_ok,Instr.sureAddr,Sem.run_pure,hB w,qbw P hsz,qf1]
            · cases ha
          · cases hr
        · cases hr
      · cases hr
  · split at hr
    · rename_i hc
      cases hr
      obtain⟨hc1,hc2,hc3⟩:=hc
      unfold slT at hc1
      split at hc1
      · rename_i e hut
        cases hu
        obtain⟨sz,hsz⟩:=Option.isSome_iff_exists.1 hc1
        simp only [Option.bind_some] at hsz
        have hB:=fun w=>qfn (P:=P) w true 0 0 hlo hhi (by omega) (by simp;omega) (by simp;omega)
        refine⟨.slice none 0 0,.snil 0 0,fun w=>hex w _ ?_⟩
        have e1:(l.getD 0).toNat=0:=by omega
        have e2:(h.getD ((0:Nat):Int)).toNat=0:=by simp;omega
        simp only [Instr.sliceAt,Sem.run_bind,qbj P hut,Result.andThen_ok,Instr.slice,hB w,qbw P hsz,Sem.run_pure,Option.map_none,ite_self,e1,e2]
      · simp at hc1
    · cases hr
  · rename_i _ a n c
    split at hr
    · rename_i e ha hsp
      split at hr
      · rename_i sz hsz
        unfold slT at ha
        split at ha
        · rename_i e' hut
          cases ha
          cases hu with
          | slice hb hs hcc =>
            rename_i L c'
            split at hr
            · rename_i hc
              have hcle:c≤c':=by rcases hcc with rfl|rfl<;>omega
              have hB:=fun w=>qfn (P:=P) w true n c' hlo hhi hc.1 hc.2.1 (by omega)
              have hrun:∀ w,(Instr.sliceAt t (.slice (some ⟨L.blk,L.base+a.off,none⟩) n c') (lo.map ρ) (hi.map ρ) none).run P w =
                  .ok (.slice (if c'=(l.getD 0).toNat then some ⟨L.blk,L.base+a.off,none⟩ else some ⟨L.blk,L.base+a.off+(l.getD 0).toNat*sz,none⟩) ((h.getD n).toNat-(l.getD 0).toNat) (c'-(l.getD 0).toNat)) w:=by
                intro w
                simp only [Instr.sliceAt,Sem.run_bind,qbj P hut,Result.andThen_ok,Instr.slice,hB w,qbw P hsz,Sem.run_pure,Option.map_some,qf1]
              by_cases hl0:l.getD 0=0
              · rw [if_pos hl0] at hr
                cases hr
                refine⟨_,?_,fun w=>hex w _ (hrun w)⟩
                simp only [hl0,Int.toNat_zero,Nat.zero_mul,Nat.add_zero,Nat.sub_zero,ite_self]
                exact .slice hb hs hcc
              · rw [if_neg hl0] at hr
                by_cases hlc:l.getD 0<c
                · rw [if_pos hlc] at hr
                  cases hr
                  refine⟨_,?_,fun w=>hex w _ (hrun w)⟩
                  rw [if_neg (by omega),Nat.add_assoc]
                  exact .slice (a:=⟨a.block,a.off+(l.getD 0).toNat*sz,none⟩) hb rfl (by rcases hcc with rfl|rfl<;>omega)
                · rw [if_neg hlc] at hr
                  cases hr
                  refine⟨_,?_,fun w=>hex w _ (hrun w)⟩
                  have e1:(h.getD n).toNat-(l.getD 0).toNat=0:=by omega
                  rw [e1]
                  split<;>exact .vague (s:=0) rfl
            · cases hr
          | vague hs=>rw [hsp] at hs;cases hs
        · cases ha
      · cases hr
    · cases hr
  · cases hr
end Go.Sim

namespace Go.Sim
open Go
def madeL (z:Value) (n:Nat):List Value:=(madeCells z.cells n).toList
theorem qqh {i:Inj}:∀ {l:List Value},l.all scal=true→VRs i l l
  | [],_=>.nil
  | x :: l,h=>by
    simp at h
    exact .cons (VR.of_scal h.1 i) (qqh (by simpa using h.2))
theorem madeL_rel {i:Inj} {z:Value} {n:Nat} (h:z.cells.all scal=true) (h0:0<z.cells.size):VRs i (madeL z n) (madeL z n):=by
  refine qqh ?_
  rw [List.all_eq_true]
  intro x hx
  simp [madeL,madeCells] at hx
  obtain⟨k,hk,rfl⟩:=hx
  have hlt:k % z.cells.size<z.cells.size:=Nat.mod_lt _ h0
  rw [getElem!_pos z.cells _ hlt]
  exact Array.all_eq_true.1 h _ hlt
def emake (P:Program) (t:TypeId) (l c:Int):Option (List Value×TypeId):=
  match slT P t with
  | some e=>match P.info? e with
    | some ti=>match ti.zero with
      | some z=>if 0≤l∧l≤c∧(ti.bytes:Int)*c≤281474976710656∧c≤9223372036854775807∧z.cells.all scal∧0<z.cells.size then some (madeL z (c.toNat*ti.size),e) else none
      | none=>none
    | none=>none
  | none=>none
theorem qn2 {P:Program} {t:TypeId} {x y:Operand} {o:Oper} (ho:o.op=.makeSlice t x y) {k k':IntKind} {l c:Int} {cs:List Value} {e:TypeId} (h:emake P t l c=some (cs,e)):NewSim P o [.int k l,.int k' c] cs e (mkSl l.toNat c.toNat):=by
  unfold emake at h
  split at h
  · rename_i e hs
    split at h
    · rename_i ti hti
      split at h
      · rename_i z hz
        split at h
        · rename_i hc
          cases h
          refine⟨mkSl_rel _ _,by rw [ho];simp,fun i w vs' hv ρ hρ=>⟨madeL z (c.toNat*ti.size),madeL_rel hc.2.2.2.2.1 hc.2.2.2.2.2,?_⟩⟩
          obtain⟨a,b,rfl,h1,h2⟩:=hv.two
          have:=h1.int_inv;subst this
          have:=h2.int_inv;subst this
          rw [ho] at hρ
          simp [Op.operands] at hρ
          unfold slT at hs
          split at hs
          · rename_i e' hu
            cases hs
            have hm:=run_make (P:=P) w t e ti z hu hti hz k k' l c hc.1 hc.2.1 hc.2.2.1 hc.2.2.2.1
            unfold execOp
            rw [ho]
            simp only [hρ.1,hρ.2,Sem.run_bind,hm,Result.andThen_ok,Sem.run_pure,madeL,Array.toArray_toList]
          · cases hs
        · cases h
      · cases h
    · cases h
  · cases h
def VA (i:Inj) (a b:Array Value):Prop:=VRs i a.toList b.toList
theorem VA.size {i:Inj} {a b:Array Value} (h:VA i a b):b.size=a.size:=by have:=VRs.length h;simpa using this.symm
theorem VA.set {i:Inj} {a b:Array Value} (h:VA i a b) (k:Nat) {v v':Value} (hv:VR i v v'):VA i (a.setIfInBounds k v) (b.setIfInBounds k v'):=by
  have hs:=h.size
  refine VRs.of_get (by simp [hs]) (fun m h1 h2=>?_)
  simp only [Array.toList_setIfInBounds,List.getElem_set]
  split
  · exact hv
  · exact VRs.at_ h m (by simpa using h1) (by simpa using h2)
theorem fold_rel {i:Inj} (off:Nat):∀ (l l':List Value) (n:Nat) (a b:Array Value),VRs i l l'→VA i a b →
    VA i ((l.zipIdx n).foldl (fun cs (x:Value×Nat)=>cs.setIfInBounds (off+x.2) x.1) a) ((l'.zipIdx n).foldl (fun cs (x:Value×Nat)=>cs.setIfInBounds (off+x.2) x.1) b)
  | [],_,_,_,_,h,hab=>by cases h;exact hab
  | x :: l,_,n,a,b,h,hab=>by
    cases h with
    | cons h1 h2 =>
      simp only [List.zipIdx_cons,List.foldl_cons]
      exact fold_rel off l _ (n+1) _ _ h2 (hab.set _ h1)
inductive PartsR (i:Inj):List (Nat×Value)→List (Nat×Value)→Prop
  | nil:PartsR i [] []
  | cons {n:Nat} {v v':Value} {l l':List (Nat×Value)}:VR i v v'→PartsR i l l'→PartsR i ((n,v) :: l) ((n,v') :: l')
theorem fill_rel {i:Inj} {place:Nat→Option (Nat×Nat)}:∀ (ps ps':List (Nat×Value)) (a b r:Array Value),PartsR i ps ps'→VA i a b→Instr.fill place a ps=some r→∃ r',Instr.fill place b ps'=some r'∧VA i r r'
  | [],_,a,b,r,h,hab,hf=>by
    cases h
    simp [Instr.fill] at hf
    subst hf
    exact⟨b,rfl,hab⟩
  | (n, v) :: ps,_,a,b,r,h,hab,hf=>by
    cases h with
    | cons h1 h2 =>
      rename_i v' l'
      unfold Instr.fill at hf ⊢
      have e1:=h1.cells_size
      have e2:=hab.size
      cases hp:place n with
      | none=>simp [hp] at hf
      | some os =>
        obtain⟨off,size⟩:=os
        simp only [hp] at hf ⊢
        rw [e1,e2]
        split at hf
        · cases hf
        · rename_i hc
          rw [if_neg hc]
          refine fill_rel ps l' _ _ r h2 ?_ hf
          have hz:=fold_rel off v.cells.toList v'.cells.toList 0 a b h1.cells hab
          rw [←Array.foldl_toList,←Array.foldl_toList,Array.toList_zipIdx,Array.toList_zipIdx]
          exact hz
def eparts (ps:Array (Nat×Operand)) (vs:List Value):List (Nat×Value):=(ps.toList.map (·.1)).zip vs
theorem qqt {i:Inj} {ρ:Operand→Value}:∀ (ps:List (Nat×Operand)) (vs:List Value),VRs i vs (ps.map fun p=>ρ p.2)→PartsR i ((ps.map (·.1)).zip vs) (ps.map fun p=>(p.1,ρ p.2))
  | [],_,h=>by cases h;exact .nil
  | (n,x) :: ps,vs,h=>by
    cases h with
    | cons h1 h2=>exact .cons h1 (qqt ps _ h2)
def qjv (P:Program) (t:TypeId) (len:Nat) (parts:Array (Nat×Operand)) (vs:List Value):Option (List Value×TypeId):=
  match slT P t with
  | some e=>match szT P e,zeroT P e with
    | some sz,some z=>if len*sz≤16777216∧z.cells.all scal∧0<z.cells.size then
        (match Instr.fill (fun i=>some (i*sz,sz)) (if len*sz=0 then #[] else madeCells z.cells (len*sz)) (eparts parts vs) with
        | some cs=>some (cs.toList,e)
        | none=>none) else none
    | _,_=>none
  | none=>none
theorem VA.made {i:Inj} {z:Value} {n:Nat} (h:z.cells.all scal=true) (h0:0<z.cells.size):VA i (madeCells z.cells n) (madeCells z.cells n):=madeL_rel h h0
theorem qmb {P:Program} {t:TypeId} {len:Nat} {parts:Array (Nat×Operand)} {o:Oper} (ho:o.op=.buildSlice t len parts) {vs:List Value} {cl:List Value} {e0:TypeId} (h:qjv P t len parts vs=some (cl,e0)):NewSim P o vs cl e0 (mkSl len len):=by
  unfold qjv at h
  split at h
  · rename_i e hs
    split at h
    · rename_i sz z hsz hz
      split at h
      · rename_i hc
        split at h
        · rename_i cs hf
          cases h
          refine⟨mkSl_rel _ _,by rw [ho];simp,fun i w vs' hv ρ hρ=>?_⟩
          rw [ho] at hρ
          simp only [Op.operands,List.map_map] at hρ
          subst hρ
          have hv2:VRs i vs (parts.toList.map fun p=>ρ p.2):=by
            have e1:(parts.toList.map fun p=>ρ p.2)=List.map (ρ∘fun x=>x.2) parts.toList:=rfl
            rw [e1]
            simpa using hv
          have hp:=qqt (i:=i) (ρ:=ρ) parts.toList vs hv2
          have hb:VA i (if len*sz=0 then #[] else madeCells z.cells (len*sz)) (if len*sz=0 then #[] else madeCells z.cells (len*sz)):=by
            split
            · exact VRs.nil
            · exact VA.made hc.2.1 hc.2.2
          obtain⟨r',hf',hr'⟩:=fill_rel _ _ _ _ cs hp hb hf
          refine⟨r'.toList,hr',?_⟩
          unfold slT at hs
          split at hs
          · rename_i e' hu
            cases hs
            unfold execOp
            rw [ho]
            have hlt:¬(16777216<len*sz):=by omega
            by_cases hz0:len*sz=0
            · rw [if_pos hz0] at hf'
              rw [hz0] at hlt
              simp [Instr.buildSlice,qbj P hu,qbw P hsz,hz0]
              rw [Array.range_zero',Array.map_empty,hf']
              rfl
            · rw [if_neg hz0] at hf'
              have hmade:(Array.map (fun x=>z.cells[x % z.cells.size]!) (Array.range (len*sz)))=madeCells z.cells (len*sz):=rfl
              simp [Instr.buildSlice,qbj P hu,qbw P hsz,hz0,hlt,qj8 P hz]
              rw [hmade,hf']
              rfl
          · cases hs
        · cases h
      · cases h
    · cases h
  · cases h
theorem qqn {P:Program} {f:FuncId} {first cap:Array Operand} {o:Oper} (ho:o.op=.makeFunc (.func f) first cap) {u v:List Value} {H:AH} (hu:u.length=first.size) (hv:v.length=cap.size) :
    RunSim P o (u++v) H (.func (.func f) u.toArray v.toArray) H:=by
  refine RunSim.pure_ fun i vs' hvs ρ hρ=>?_
  rw [ho] at hρ
  simp [Op.operands] at hρ
  subst hρ
  have h1 : VRs i u (first.toList.map ρ)∧VRs i v (cap.toList.map ρ):=by
    have key:∀ (u:List Value) (a:List Value) (b:List Value),u.length=a.length→VRs i (u++v) (a++b)→VRs i u a∧VRs i v b:=by
      intro u
      induction u with
      | nil=>intro a b hl h;cases a with
        | nil=>exact⟨.nil,h⟩
        | cons _ _=>simp at hl
      | cons x u ih=>intro a b hl h;cases a with
        | nil=>simp at hl
        | cons y a=>cases h with
          | cons p q=>exact⟨.cons p (ih a b (by simpa using hl) q).1,(ih a b (by simpa using hl) q).2⟩
    exact key u _ _ (by simp [hu]) hvs
  refine⟨.func (.func f) (first.map ρ) (cap.map ρ),?_,fun w=>?_⟩
  · refine .func (.func f) (by simp [hu]) (fun k p q=>?_) (by simp [hv]) (fun k p q=>?_)
    · have:=h1.1.at_ k (by simpa using p) (by simpa using q);simpa using this
    · have:=h1.2.at_ k (by simpa using p) (by simpa using q);simpa using this
  · unfold execOp
    rw [ho]
    simp [Instr.makeFunc]
theorem qb6 {P:Program} {o:Oper} {b:Builtin} {args:Array Operand} {tys:Array TypeId} (ho:o.op=.call { callee:=.builtin b,args,argTypes:=tys }) (ρ:Operand→Value) (w:World) :
    (execOp ρ o).run P w=(builtin b tys o.type (args.map fun | .const _=>true|_=>false) (args.map ρ)).run P w:=by
  unfold execOp
  rw [ho]
  simp only [resolve,invoke,Sem.run_bind,Sem.run_pure,Result.andThen_ok]
  rfl
def elen (P:Program) (t:TypeId) (v:Value):Option Int:=
  match P.underlying t,v with
  | some .string,.string s=>some s.size
  | some (.slice _),.slice _ n _=>some n
  | some (.array n _),_=>some n
  | _,_=>none
theorem qk4 {P:Program} {o:Oper} {x:Operand} {t:TypeId} (ho:o.op=.call { callee:=.builtin .len,args:=#[x],argTypes:=#[t] }) {v:Value} {n:Int} {H:AH} (h:elen P t v=some n):RunSim P o [v] H (.int .i64 n) H:=by
  refine RunSim.pure_ fun i vs' hv ρ hρ=>?_
  obtain⟨v',rfl,hv'⟩:=hv.one
  have e1:ρ x=v':=by rw [ho] at hρ;simpa [Op.operands,Call.operands] using hρ
  refine⟨_,.int _ _,fun w=>?_⟩
  rw [qb6 ho]
  unfold elen at h
  split at h
  · rename_i s hu
    cases hv'
    cases h
    simp [builtin,Builtin.len_,e1,qbj P hu,goInt]
  · rename_i e n m hu
    cases h
    cases hv'<;>simp [builtin,Builtin.len_,e1,qbj P hu,goInt]
  · rename_i n e hu
    cases h
    simp [builtin,Builtin.len_,e1,qbj P hu,goInt]
  · cases h
theorem runSim_min {P:Program} {o:Oper} {x y:Operand} {tys:Array TypeId} (ho:o.op=.call { callee:=.builtin .min,args:=#[x,y],argTypes:=tys }) {k:IntKind} {a b:Int} {H:AH}:RunSim P o [.int k a,.int k b] H (.int k (if b<a then b else a)) H:=by
  refine RunSim.pure_ fun i vs' hv ρ hρ=>?_
  obtain⟨u,v,rfl,h1,h2⟩:=hv.two
  have:=h1.int_inv;subst this
  have:=h2.int_inv;subst this
  rw [ho] at hρ
  simp [Op.operands,Call.operands] at hρ
  refine⟨_,.int _ _,fun w=>?_⟩
  rw [qb6 ho]
  simp [builtin,Builtin.min_,hρ.1,hρ.2,Builtin.min2,List.foldlM]
theorem runSim_max {P:Program} {o:Oper} {x y:Operand} {tys:Array TypeId} (ho:o.op=.call { callee:=.builtin .max,args:=#[x,y],argTypes:=tys }) {k:IntKind} {a b:Int} {H:AH}:RunSim P o [.int k a,.int k b] H (.int k (if a<b then b else a)) H:=by
  refine RunSim.pure_ fun i vs' hv ρ hρ=>?_
  obtain⟨u,v,rfl,h1,h2⟩:=hv.two
  have:=h1.int_inv;subst this
  have:=h2.int_inv;subst this
  rw [ho] at hρ
  simp [Op.operands,Call.operands] at hρ
  refine⟨_,.int _ _,fun w=>?_⟩
  rw [qb6 ho]
  simp [builtin,Builtin.max_,hρ.1,hρ.2,Builtin.max2,List.foldlM]
end Go.Sim

namespace Go.Sim
open Go
def erow (H:AH) (v:Value) (n:Nat):Option (List Value):=
  match v with
  | .slice none _ _=>if n=0 then some [] else none
  | .slice (some a) _ _ =>
    match a.spot with
    | none=>match H[a.block]? with
      | some (.cells c _ _ _)=>if a.off+n≤c.length then some ((c.drop a.off).take n) else none
      | _=>none
    | some _=>if n=0 then some [] else none
  | _=>none
def slen:Value→Nat
  | .slice _ n _=>n
  | _=>0
theorem erow_sim {P:Program} {i:Inj} {H:AH} {w:World} (h:Rel i H w) {v v':Value} {n m size:Nat} {l:List Value} (hv:VR i v v') (hn:n=m*size) (he:erow H v n=some l) :
    ∃ l',VRs i l l'∧l'.length=n∧((∃ a ln c,v'=.slice (some a) ln c∧∀ j u,l'[j]? = some u→w.cell? (a.add j)=some u)∨(∃ ln c,v'=.slice none ln c∧l'=[])) ∧
      ∀ w2:World,(∀ a u,w.cell? a=some u→w2.cell? a=some u)→(Builtin.firstCells size m v').run P w2=.ok l'.toArray w2:=by
  unfold erow at he
  split at he
  · rename_i ln c
    split at he
    · rename_i hz
      cases he
      cases hv
      exact⟨[],.nil,by simp [hz],.inr ⟨_,_,rfl,rfl⟩,fun w2 _=>by simp [Builtin.firstCells]⟩
    · cases he
  · rename_i a ln c
    split at he
    · rename_i hsp
      split at he
      · rename_i cs e o r hH
        split at he
        · rename_i hfit
          cases he
          cases hv with
          | slice hb hs hcc =>
            obtain⟨l',h1,h2,h3⟩:=h.row hb hH a.off n hfit
            refine⟨l',h1,h2,.inl ⟨_,_,_,rfl,h3⟩,fun w2 hw2=>?_⟩
            exact run_firstCells_some (P:=P) w2 size m _ _ _ l' (by omega) (fun j u hj=>hw2 _ _ (h3 j u hj))
          | vague hs=>rw [hsp] at hs;cases hs
        · cases he
      · cases he
    · rename_i s hsp
      split at he
      · rename_i hz
        cases he
        cases hv with
        | slice hb hs hcc=>rw [hsp] at hs;cases hs
        | vague hs =>
          rename_i x _ c'
          exact⟨[],.nil,by simp [hz],.inl ⟨x,0,c',rfl,fun j u hj=>by simp at hj⟩,fun w2 _=>run_firstCells_some (P:=P) w2 size m x 0 c' [] (by simp;omega) (fun j u hj=>by simp at hj)⟩
      · cases he
  · cases he
def eappend (P:Program) (t t':TypeId) (s x:Value) (H:AH):Option (Value×AH):=
  match slT P t,slT P t' with
  | some e, some _=>match P.info? e with
    | some ti => match ti.zero with
      | some z => match erow H x (slen x*ti.size) with
        | some new =>
          if (slen s+slen x)*ti.bytes≤140737488355328∧slen s+slen x≤9223372036854775807∧z.cells.size=ti.size∧0<ti.size∧new.all one then
            (match s with
            | .slice none 0 0=>if slen x=0 then some (.slice none 0 0,H) else some (.slice (some ⟨H.length,0,none⟩) (slen x) (slen x),H++[.cells new e (some ti.size) false])
            | .slice (some a) l c =>
              (match H[a.block]?,a.spot with
              | some (.cells cc e' opn ro),none =>
                if l+slen x≤c then
                  if slen x=0 then some (.slice (some a) l c,H)
                  else if ro=false∧a.off+l*ti.size+new.length≤cc.length then some (.slice (some a) (l+slen x) c,H.set a.block (.cells (qcq cc (a.off+l*ti.size) new) e' opn false)) else none
                else if opn=none then
                  if a.off+l*ti.size≤cc.length then some (.slice (some ⟨H.length,0,none⟩) (l+slen x) (l+slen x),H++[.cells ((cc.drop a.off).take (l*ti.size)++new) e (some ti.size) false]) else none
                else if ro=false∧opn=some ti.size∧l=c∧a.off=0∧l*ti.size=cc.length∧e'=e then
                  some (.slice (some ⟨H.length,0,none⟩) (l+slen x) (l+slen x),H.set a.block .dead++[.cells (cc++new) e (some ti.size) false]) else none
              | _,_=>none)
            | _=>none) else none
        | none=>none
      | none=>none
    | none=>none
  | _,_=>none
theorem qhb {P:Program} (w:World) {t t' ty e:TypeId} (ht:P.underlying t=some (.slice e)) (ht':∃ e',P.underlying t'=some (.slice e')) {n:Nat} (hs:szT P e=some n) (x:Value) (hx:slen x=0) (hxs:∃ a b c,x=.slice a b c)
    (a:Option Addr) (l c:Nat) (hlc:l≤c) (hf:(Builtin.firstCells n 0 x).run P w=.ok #[] w) (hnil:a=none→l=0) :
    (Builtin.append_ #[t,t'] ty #[.slice a l c,x]).run P w=.ok (.slice a l c) w:=by
  obtain⟨e',ht'⟩:=ht'
  obtain⟨p,q,r,rfl⟩:=hxs
  simp only [slen] at hx
  subst hx
  have hz:∀ i,P.info? e=some i→i.size=n:=fun i hi=>by simp [szT,hi] at hs;exact hs
  cases a with
  | none=>simp [Builtin.append_,qbj P ht,qbj P ht',qbw P hs,Builtin.lenOf,hlc,hf]
  | some a=>simp [Builtin.append_,qbj P ht,qbj P ht',qbw P hs,Builtin.lenOf,hlc,hf,storeCells]
theorem qkb {P:Program} (w:World) {t t' ty e:TypeId} (ht:P.underlying t=some (.slice e)) (ht':∃ e',P.underlying t'=some (.slice e')) {n:Nat} (hs:szT P e=some n) (x:Value) (hxs:∃ a b c,x=.slice a b c)
    (b off l c:Nat) (hlc:l+slen x≤c) (news:Array Value) (hf:(Builtin.firstCells n (slen x) x).run P w=.ok news w) {w':World} (hst:(storeCells ⟨b,off+l*n,none⟩ news.toList).run P w=.ok () w') :
    (Builtin.append_ #[t,t'] ty #[.slice (some ⟨b,off,none⟩) l c,x]).run P w=.ok (.slice (some ⟨b,off,none⟩) (l+slen x) c) w':=by
  obtain⟨e',ht'⟩:=ht'
  obtain⟨p,q,r,rfl⟩:=hxs
  simp only [slen] at hlc hf ⊢
  simp [Builtin.append_,qbj P ht,qbj P ht',qbw P hs,Builtin.lenOf,hlc,hf,qf1,hst]
theorem qjf {P:Program} (w:World) {t t' ty e:TypeId} (ht:P.underlying t=some (.slice e)) (ht':∃ e',P.underlying t'=some (.slice e')) {ti:TypeInfo} (hi:P.info? e=some ti) {z:Value} (hz:ti.zero=some z)
    (a:Option Addr) (l c:Nat) (x:Value) (hc:c<l+slen x) (hxs:∃ a b c,x=.slice a b c)
    (olds news:Array Value) (hfo:(Builtin.firstCells ti.size l (.slice a l c)).run P w.drew=.ok olds w.drew) (hf:(Builtin.firstCells ti.size (slen x) x).run P w.drew=.ok news w.drew)
    (hb:(l+slen x)*ti.bytes≤140737488355328) (h63:l+slen x≤9223372036854775807) :
    ∃ N,l+slen x≤N∧(Builtin.append_ #[t,t'] ty #[.slice a l c,x]).run P w=.ok (.slice (some ⟨w.heap.size,0,none⟩) (l+slen x) N) (w.drew.alloc (.cells (olds++news++Builtin.zeroCells z.cells (N-(l+slen x))) e)):=by
  obtain⟨e',ht'⟩:=ht'
  obtain⟨p,q,r,rfl⟩:=hxs
  refine⟨grownCap w (l+q) c e,grownCap_ge w _ _ _,?_⟩
  simp only [slen] at hc hf hb h63 ⊢
  have hn:¬(l+q≤c):=by omega
  have h63':¬(9223372036854775807<((l:Int)+(q:Int))):=by omega
  have hfit:=growslice_fits hc hb
  have h48':¬(281474976710656<Builtin.nextslicecap (l+q) c*ti.bytes):=by omega
  have hne:(Question.appendCap (l+q) c e).forced=false:=rfl
  simp [Builtin.append_,qbj P ht,qbj P ht',sizeOf,typeInfo,zeroValue,hi,hz,Builtin.lenOf,hn,h63',h48',hne,hf,hfo,newRow,grownCap]
theorem qqq {i:Inj} {H:AH} {w:World} (h:Rel i H w) {e:TypeId} {new new':List Value} {z:Array Value} (hv:VRs i new new') (m N size:Nat) (hz:z.size=size) :
    Rel (i.upd H.length ⟨w.heap.size,0,size,N-m⟩) (H++[.cells new e (some size) false]) (w.drew.alloc (.cells (new'.toArray++Builtin.zeroCells z (N-m)) e)) ∧
    Ext i (i.upd H.length ⟨w.heap.size,0,size,N-m⟩) H (H++[.cells new e (some size) false]) w (w.drew.alloc (.cells (new'.toArray++Builtin.zeroCells z (N-m)) e)):=by
  have hr:Rel i H w.drew:=h.world rfl
  refine⟨qpf hr (.cells new e (some size) false) _ size (N-m) ⟨_,e,(0,0),heap_alloc_new w.drew _,fun k v hk=>?_,fun _=>⟨rfl,rfl,rfl,?_⟩,(fun hc=>by cases hc),(fun s hs=>by cases hs;rfl)⟩,(Ext.drawn h _).trans (ext_new hr (.cells new e (some size) false) _ size (N-m))⟩
  · obtain⟨v',h1,h2⟩:=hv.get hk
    refine⟨v',?_,h2.mono (Inj.le_upd hr.none_at)⟩
    simp only [Nat.zero_add]
    rw [Array.getElem?_append_left (by
      have:=(List.getElem?_eq_some_iff.1 h1).1
      simpa using this)]
    simpa using h1
  · simp [size_zeroCells,hz,←hv.length,Nat.mul_comm]
theorem cell_drew_keep {w:World}:∀ a u,w.cell? a=some u→w.drew.cell? a=some u:=fun _ _ h=>h
theorem rel_end {i:Inj} {H:AH} {w:World} (h:Rel i H w) {b:Nat} {L:Loc} {cc new new':List Value} {e:TypeId} (hb:i b=some L) (hH:H[b]? = some (.cells cc e (some L.esz) false)) (hv:VRs i new new') {m:Nat} (hesz:new.length=m*L.esz) (hm:m≤L.ext)
    {c':Array Value} (hw:w.heap[L.blk]? = some (.cells c' e (0,0))) (hcs:c'.size=cc.length+L.ext*L.esz) (hcc:∀ (k:Nat) (v:Value),cc[k]? = some v→∃ v',c'[k]? = some v'∧VR i v v') :
    Rel (i.upd H.length ⟨L.blk,0,L.esz,L.ext-m⟩) (H.set b .dead++[.cells (cc++new) e (some L.esz) false]) (w.setRow L.blk (qcq c'.toList cc.length new').toArray) ∧
    Ext i (i.upd H.length ⟨L.blk,0,L.esz,L.ext-m⟩) H (H.set b .dead++[.cells (cc++new) e (some L.esz) false]) w (w.setRow L.blk (qcq c'.toList cc.length new').toArray):=by
  have hbl:b<H.length:=h.dom b L hb
  have hle:=Inj.le_upd (L:=⟨L.blk,0,L.esz,L.ext-m⟩) h.none_at
  have hroom:cc.length+new'.length≤c'.toList.length:=by
    have:=hv.length
    have hmm:m*L.esz≤L.ext*L.esz:=Nat.mul_le_mul_right _ hm
    simp only [Array.length_toList]
    omega
  have hget:∀ n,n<H.length→(H.set b .dead++[.cells (cc++new) e (some L.esz) false])[n]? = if n=b then some .dead else H[n]?:=by
    intro n hn
    rw [List.getElem?_append_left (by simpa using hn)]
    by_cases hnb:n=b
    · subst hnb;rw [if_pos rfl,List.getElem?_set_self hbl]
    · rw [if_neg hnb,List.getElem?_set_ne (Ne.symm hnb)]
  have hlast:(H.set b .dead++[.cells (cc++new) e (some L.esz) false])[H.length]? = some (.cells (cc++new) e (some L.esz) false):=by
    rw [List.getElem?_append_right (by simp)];simp
  refine⟨⟨fun n M hn=>?_,fun n M x hn hx=>?_,fun b1 b2 L1 L2 x1 x2 f1 f2 g1 g2 o1 l2 hL=>?_⟩,⟨h.dom,hle,rfl,rfl,rfl,by simp,by simp,fun n x' hn hx ho=>?_,fun n hn hno=>?_,fun n hn hi=>?_,fun n M hn=>?_⟩⟩
  · by_cases hnl:n=H.length
    · simp [hnl]
    · simp [Inj.upd,hnl] at hn;have:=h.dom n M hn;simp;omega
  · by_cases hnl:n=H.length
    · subst hnl
      simp [Inj.upd] at hn
      subst hn
      rw [hlast] at hx
      cases hx
      refine⟨_,e,(0,0),setRow_heap w L.blk c' _ e _ hw,fun k v hk=>?_,fun _=>⟨rfl,rfl,rfl,?_⟩,(fun hc=>by cases hc),(fun s hs=>by cases hs;rfl)⟩
      · simp only [Nat.zero_add,List.getElem?_toArray]
        rw [qgc _ _ _ _ hroom]
        by_cases hkc:k<cc.length
        · rw [if_neg (by omega)]
          rw [List.getElem?_append_left hkc] at hk
          obtain⟨v',p,q⟩:=hcc k v hk
          exact⟨v',by simpa using p,q.mono hle⟩
        · rw [List.getElem?_append_right (by omega)] at hk
          obtain⟨v',p,q⟩:=hv.get hk
          have hlt:=(List.getElem?_eq_some_iff.1 p).1
          rw [if_pos ⟨by omega,by omega⟩]
          exact⟨v',p,q.mono hle⟩
      · have e1:=qj5 c'.toList cc.length new' hroom
        simp only [List.size_toArray,e1,Array.length_toList,List.length_append,hcs,hesz]
        rw [Nat.add_assoc,←Nat.add_mul]
        congr 2
        omega
    · simp [Inj.upd,hnl] at hn
      have hnlt:=h.dom n M hn
      rw [hget n hnlt] at hx
      by_cases hnb:n=b
      · rw [if_pos hnb] at hx;cases hx;trivial
      · rw [if_neg hnb] at hx
        have hr:=h.blk n M x hn hx
        by_cases hxl:x.live=true
        · refine (hr.mono hle).heap (setRow_other w _ _ _ ?_)
          intro hM
          exact hnb (h.inj b n L M _ x hb hn hH hx rfl hxl hM.symm).symm
        · cases x<;>simp [AB.live] at hxl
          trivial
  · by_cases n1:b1=H.length
    · by_cases n2:b2=H.length
      · rw [n1,n2]
      · simp [Inj.upd,n2] at f2
        have:=h.dom b2 L2 f2
        rw [hget b2 this] at g2
        subst n1
        simp [Inj.upd] at f1
        subst f1
        by_cases hbb:b2=b
        · rw [if_pos hbb] at g2;cases g2;simp [AB.live] at l2
        · rw [if_neg hbb] at g2
          exact absurd (h.inj b b2 L L2 _ x2 hb f2 hH g2 rfl l2 hL).symm hbb
    · simp [Inj.upd,n1] at f1
      have hd1:=h.dom b1 L1 f1
      rw [hget b1 hd1] at g1
      by_cases hbb1:b1=b
      · rw [if_pos hbb1] at g1;cases g1;simp [AB.owned] at o1
      · rw [if_neg hbb1] at g1
        by_cases n2:b2=H.length
        · subst n2
          simp [Inj.upd] at f2
          subst f2
          exact absurd (h.inj b1 b L1 L x1 _ f1 hb g1 hH o1 rfl hL) hbb1
        · simp [Inj.upd,n2] at f2
          have hd2:=h.dom b2 L2 f2
          rw [hget b2 hd2] at g2
          by_cases hbb:b2=b
          · rw [if_pos hbb] at g2;cases g2;simp [AB.live] at l2
          · rw [if_neg hbb] at g2
            exact h.inj b1 b2 L1 L2 x1 x2 f1 f2 g1 g2 o1 l2 hL
  · rw [hget n hn] at hx
    by_cases hnb:n=b
    · rw [if_pos hnb] at hx;cases hx;simp [AB.owned] at ho
    · rw [if_neg hnb] at hx;exact⟨x',hx,ho⟩
  · exact setRow_other w _ _ _ (fun hM=>hno b L _ hb hH rfl hM.symm)
  · rw [hget n hn,if_neg (fun hnb=>by subst hnb;rw [hb] at hi;cases hi)]
  · by_cases hnl:n=H.length
    · subst hnl
      simp [Inj.upd] at hn
      subst hn
      exact .inr ⟨Nat.le_refl _,.inr ⟨b,L,_,hb,hH,rfl,rfl⟩⟩
    · simp [Inj.upd,hnl] at hn;exact .inl hn
theorem rel_dead {i:Inj} {H:AH} {w:World} (h:Rel i H w) {b:Nat} {L:Loc} (hb:i b=some L):Rel i (H.set b .dead) w∧Ext i i H (H.set b .dead) w w:=by
  have back:∀ (n:Nat) (y:AB),(H.set b .dead)[n]? = some y→y.live=true→H[n]? = some y:=by
    intro n y hy hl
    by_cases hnb:n=b
    · subst hnb
      have hlt:n<H.length:=by
        have:=(List.getElem?_eq_some_iff.1 hy).1
        simpa using this
      rw [List.getElem?_set_self hlt] at hy
      cases hy
      cases hl
    · rwa [List.getElem?_set_ne (Ne.symm hnb)] at hy
  refine⟨⟨fun n M hn=>by simpa using h.dom n M hn,fun n M x hn hx=>?_,fun b1 b2 L1 L2 x1 x2 f1 f2 g1 g2 o1 l2 hL=>h.inj b1 b2 L1 L2 x1 x2 f1 f2 (back _ _ g1 (AB.owned_live o1)) (back _ _ g2 l2) o1 l2 hL⟩,
    ⟨h.dom,i.le_refl,rfl,rfl,rfl,Nat.le_refl _,by simp,fun n x' hn hx ho=>⟨x',back _ _ hx (AB.owned_live ho),ho⟩,fun _ _ _=>rfl,fun n hn hi=>?_,fun _ _ hn=>.inl hn⟩⟩
  · by_cases hl:x.live=true
    · exact h.blk n M x hn (back _ _ hx hl)
    · cases x<;>simp [AB.live] at hl
      trivial
  · by_cases hnb:n=b
    · subst hnb;rw [hb] at hi;cases hi
    · exact List.getElem?_set_ne (Ne.symm hnb)
theorem qhc {P:Program} {o:Oper} {x y:Operand} {t t':TypeId} (ho:o.op=.call { callee:=.builtin .append,args:=#[x,y],argTypes:=#[t,t'] }) (ρ:Operand→Value) (w w':World) (v:Value)
    (h:(Builtin.append_ #[t,t'] o.type #[ρ x,ρ y]).run P w=.ok v w'):(execOp ρ o).run P w=.ok (.value v) w':=by
  rw [qb6 ho]
  have e:Array.map ρ #[x,y] = #[ρ x,ρ y]:=by simp
  simp only [builtin,e,Sem.run_bind,h,Result.andThen_ok,Sem.run_pure]
theorem qqg {i:Inj} {v v':Value} (h:VR i v v') (hs:∃ a b c,v=.slice a b c):(∃ a b c,v'=.slice a b c)∧slen v'=slen v:=by
  obtain⟨a,b,c,rfl⟩:=hs
  cases h<;>exact⟨⟨_,_,_,rfl⟩,rfl⟩
theorem erow_slice {H:AH} {v:Value} {n:Nat} {l:List Value} (h:erow H v n=some l):∃ a b c,v=.slice a b c:=by
  unfold erow at h
  split at h
  · exact⟨_,_,_,rfl⟩
  · exact⟨_,_,_,rfl⟩
  · cases h
theorem runSim_append {P:Program} {o:Oper} {x y:Operand} {t t':TypeId} (ho:o.op=.call { callee:=.builtin .append,args:=#[x,y],argTypes:=#[t,t'] }) {s u v:Value} {H H':AH} (h:eappend P t t' s u H=some (v,H')):RunSim P o [s,u] H v H':=by
  intro i w vs' hr hvs ρ hρ
  obtain⟨s',u',rfl,hs,hu⟩:=hvs.two
  have hρ2:ρ x=s'∧ρ y=u':=by rw [ho] at hρ;simpa [Op.operands,Call.operands] using hρ
  obtain⟨hx,hy⟩:=hρ2
  clear hρ
  unfold eappend at h
  split at h
  · rename_i e e2 ht1 ht2
    split at h
    · rename_i ti hti
      split at h
      · rename_i z hz
        split at h
        · rename_i new hnew
          split at h
          · rename_i hc
            obtain⟨c1,c2,c3,c4,c5⟩:=hc
            unfold slT at ht1 ht2
            split at ht1
            · rename_i e' hut
              cases ht1
              split at ht2
              · rename_i e'' hut'
                cases ht2
                have hszT:szT P e=some ti.size:=by simp [szT,hti]
                have hus:=erow_slice hnew
                obtain⟨hus',hul⟩:=qqg hu hus
                obtain⟨new',n1,n2,n3,n4⟩:=erow_sim (P:=P) hr hu rfl hnew
                have hnl:new.length=slen u*ti.size:=by rw [n1.length,n2]
                have hfw:=n4 w (fun _ _ h=>h)
                rw [←hul] at hfw
                have hfd:=n4 w.drew cell_drew_keep
                rw [←hul] at hfd
                have hex:∀ w' v',(Builtin.append_ #[t,t'] o.type #[s',u']).run P w=.ok v' w'→(execOp ρ o).run P w=.ok (.value v') w':=fun w' v' hh=>qhc ho ρ w w' v' (by rw [hx,hy];exact hh)
                split at h
                · -- s is nil
                  cases hs
                  split at h
                  · rename_i h0
                    cases h
                    refine⟨i,w,_,.refl hr,hr,.snil 0 0,.inl (hex _ _ ?_)⟩
                    have hnn:new'=[]:=List.eq_nil_of_length_eq_zero (by rw [n2,h0,Nat.zero_mul])
                    rw [hul,h0,hnn] at hfw
                    exact qhb w hut ⟨_,hut'⟩ hszT u' (by rw [hul];exact h0) hus' none 0 0 (Nat.le_refl _) hfw (fun _=>rfl)
                  · rename_i h0
                    cases h
                    have hsl:slen (.slice none 0 0)=0:=rfl
                    rw [hsl,←hul,Nat.zero_add] at c1 c2
                    obtain⟨N,hN,hrun⟩:=qjf w (ty:=o.type) hut ⟨_,hut'⟩ hti hz none 0 0 u' (by rw [hul];omega) hus' #[] new'.toArray (by simp [Builtin.firstCells]) hfd (by rw [Nat.zero_add];exact c1) (by rw [Nat.zero_add];exact c2)
                    have hg:=qqq hr (e:=e) n1 (0+slen u') N ti.size c3
                    refine⟨_,_,_,hg.2,hg.1,?_,.inl (hex _ _ (by rw [hrun,Array.empty_append]))⟩
                    have hup:=Inj.upd_same i H.length ⟨w.heap.size,0,ti.size,N-(0+slen u')⟩
                    rw [Nat.zero_add] at hN hup ⊢
                    rw [←hul]
                    exact .slice (a:=⟨H.length,0,none⟩) (L:=⟨w.heap.size,0,ti.size,N-slen u'⟩) hup rfl (.inr (by simp only [];omega))
                · rename_i _ a l c
                  split at h
                  · rename_i cc ee opn ro hH hsp
                    cases hs with
                    | vague hsv=>rw [hsp] at hsv;cases hsv
                    | slice hb hspp hcc =>
                      rename_i L c'
                      have hsl:slen (.slice (some a) l c)=l:=rfl
                      rw [hsl] at c1 c2
                      have hcle:c≤c':=by rcases hcc with rfl|rfl<;>omega
                      by_cases hfit:l+slen u≤c
                      · rw [if_pos hfit] at h
                        by_cases h0:slen u=0
                        · rw [if_pos h0] at h
                          cases h
                          have hnn:new'=[]:=List.eq_nil_of_length_eq_zero (by rw [n2,h0,Nat.zero_mul])
                          rw [hul,h0,hnn] at hfw
                          exact⟨i,w,_,.refl hr,hr,.slice hb hsp hcc,.inl (hex _ _ (qhb w hut ⟨_,hut'⟩ hszT u' (by rw [hul];exact h0) hus' _ l c' (by omega) hfw (fun hh=>by cases hh)))⟩
                        · rw [if_neg h0] at h
                          split at h
                          · rename_i hroom
                            cases h
                            obtain⟨rfl,hroom⟩:=hroom
                            obtain⟨w',b0,hst,hrel,hext⟩:=qdz (P:=P) hr hb hH n1 c5 hroom
                            refine⟨i,w',_,hext,hrel,.slice hb hsp hcc,.inl (hex _ _ ?_)⟩
                            have hrun:=qkb w (ty:=o.type) hut ⟨_,hut'⟩ hszT u' hus' L.blk (L.base+a.off) l c' (by rw [hul];omega) _ hfw (w':=w') (by rw [b0,Nat.zero_add];simpa using hst)
                            rw [hul] at hrun
                            exact hrun
                          · cases h
                      · rw [if_neg hfit] at h
                        -- what is read of s
                        have hold:a.off+l*ti.size≤cc.length→∃ olds,VRs i ((cc.drop a.off).take (l*ti.size)) olds∧olds.length=l*ti.size∧(Builtin.firstCells ti.size l (.slice (some ⟨L.blk,L.base+a.off,none⟩) l c')).run P w.drew=.ok olds.toArray w.drew:=by
                          intro hle
                          obtain⟨olds,o1,o2,o3⟩:=hr.row hb hH a.off (l*ti.size) hle
                          exact⟨olds,o1,o2,run_firstCells_some (P:=P) w.drew ti.size l _ l c' olds o2 (fun j u hj=>o3 j u hj)⟩
                        have hgrow:∀ (olds cold:List Value),VRs i cold olds→(Builtin.firstCells ti.size l (.slice (some ⟨L.blk,L.base+a.off,none⟩) l c')).run P w.drew=.ok olds.toArray w.drew→c'<l+slen u' →
                            ∃ i' w' v',Ext i i' H (H++[.cells (cold++new) e (some ti.size) false]) w w'∧Rel i' (H++[.cells (cold++new) e (some ti.size) false]) w'∧VR i' (.slice (some ⟨H.length,0,none⟩) (l+slen u) (l+slen u)) v'∧(execOp ρ o).run P w=.ok (.value v') w':=by
                          intro olds cold ho hfo hlt
                          obtain⟨N,hN,hrun⟩:=qjf w (ty:=o.type) hut ⟨_,hut'⟩ hti hz _ l c' u' hlt hus' olds.toArray new'.toArray hfo hfd (by rw [hul];exact c1) (by rw [hul];exact c2)
                          have hg:=qqq hr (e:=e) (ho.append n1) (l+slen u') N ti.size c3
                          refine⟨_,_,_,hg.2,hg.1,?_,hex _ _ (by rw [hrun,show olds.toArray++new'.toArray=(olds++new').toArray from List.append_toArray _ _])⟩
                          have hup:=Inj.upd_same i H.length ⟨w.heap.size,0,ti.size,N-(l+slen u')⟩
                          rw [←hul]
                          exact .slice (a:=⟨H.length,0,none⟩) (L:=⟨w.heap.size,0,ti.size,N-(l+slen u')⟩) hup rfl (.inr (by simp only [];omega))
                        obtain⟨d',ee',fr,hw1,hw2,hw3,hw4,hw5⟩:=hr.blk a.block L _ hb hH
                        split at h
                        · rename_i hop
                          subst hop
                          split at h
                          · rename_i hle
                            cases h
                            have hext0:=hw4 rfl
                            have hc':c'=c:=by rcases hcc with rfl|rfl<;>omega
                            obtain⟨olds,o1,o2,o3⟩:=hold hle
                            obtain⟨i',w',v',g1,g2,g3,g4⟩:=hgrow olds _ o1 o3 (by rw [hul];omega)
                            exact⟨i',w',v',g1,g2,g3,.inl g4⟩
                          · cases h
                        · split at h
                          · rename_i hcond
                            cases h
                            obtain⟨rfl,rfl,rfl,ha0,hlen,rfl⟩:=hcond
                            have hesz:=hw5 _ rfl
                            obtain⟨b0,rfl,rfl,hsz⟩:=hw3 rfl
                            have hpt:(⟨L.blk,L.base+a.off,none⟩:Addr)=⟨L.blk,0,none⟩:=by rw [b0,ha0]
                            by_cases hin:l+slen u'≤c'
                            · -- in place
                              have hext:slen u'≤L.ext:=by rcases hcc with rfl|rfl<;>omega
                              have hst:=run_storeCells_at P L.blk cc.length ee' new' 0 d' w hw1 (by
                                rw [hsz,n2,←hul,Nat.add_zero]
                                have hmm:slen u'*ti.size≤L.ext*ti.size:=Nat.mul_le_mul_right _ hext
                                rw [hesz]
                                omega) (fun v hv'=>by
                                  obtain⟨k,hk,rfl⟩:=List.mem_iff_getElem.1 hv'
                                  refine one_cell' ?_
                                  rw [(n1.at_ k (by rw [n1.length];exact hk) hk).one_eq]
                                  exact List.all_eq_true.1 c5 _ (List.getElem_mem _))
                              simp only [Nat.add_zero] at hst
                              have hend:=rel_end hr hb (by rw [hesz];exact hH) n1 (m:=slen u') (by rw [hesz,hul];exact hnl) hext hw1 hsz (fun k v hk=>by
                                obtain⟨v',p,q⟩:=hw2 k v hk
                                exact⟨v',by rw [b0,Nat.zero_add] at p;exact p,q⟩)
                              rw [hesz] at hend
                              have hrun:=qkb w (ty:=o.type) hut ⟨_,hut'⟩ hszT u' hus' L.blk 0 l c' hin _ hfw (w':=w.setRow L.blk (qcq d'.toList cc.length new').toArray) (by rw [Nat.zero_add,hlen];exact hst)
                              refine⟨_,_,_,hend.2,hend.1,?_,.inl (hex _ _ (by rw [hpt];exact hrun))⟩
                              have hup:=Inj.upd_same i H.length ⟨L.blk,0,ti.size,L.ext-slen u'⟩
                              rw [←hul]
                              exact .slice (a:=⟨H.length,0,none⟩) (L:=⟨L.blk,0,ti.size,L.ext-slen u'⟩) hup rfl (.inr (by simp only [];rcases hcc with rfl|rfl<;>omega))
                            · obtain⟨olds,o1,o2,o3⟩:=hold (by omega)
                              have hcold:(cc.drop a.off).take (l*ti.size)=cc:=by rw [ha0,List.drop_zero,hlen,List.take_length]
                              rw [hcold] at o1
                              obtain⟨i',w',v',g1,g2,g3,g4⟩:=hgrow olds cc o1 o3 (by omega)
                              have hd:=rel_dead g2 (g1.le _ _ hb)
                              rw [List.set_append_left _ _ (hr.dom _ _ hb)] at hd
                              exact⟨i',w',v',g1.trans hd.2,hd.1,g3,.inl g4⟩
                          · cases h
                  · cases h
                · cases h
              · cases ht2
            · cases ht1
          · cases h
        · cases h
      · cases h
    · cases h
  · cases h
end Go.Sim
