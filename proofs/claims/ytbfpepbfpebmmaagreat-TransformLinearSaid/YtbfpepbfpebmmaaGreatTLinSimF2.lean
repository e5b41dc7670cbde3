/- Part of the proof: SimF2. -/
import Derived.Test.YtbfpepbfpebmmaaGreatTLinSimCToSimF
set_option linter.all false
namespace Go.Sim
open Go
theorem qnw {P:Program} (w:World) {t t' ty e:TypeId} (ht:P.underlying t=some (.slice e)) {k:IntKind} (ht':P.underlying t'=some (.int k)) {ti:TypeInfo} (hi:P.info? e=some ti) {z:Value} (hz:ti.zero=some z)
    (n:Nat) (h0:0<n) (hsz:0<ti.size) (hb:n*ti.bytes≤140737488355328) (h63:n≤9223372036854775807) :
    ∃ N,n≤N∧(Builtin.append_ #[t,t'] ty #[.slice none 0 0,.int .i64 n]).run P w=.ok (.slice (some ⟨w.heap.size,0,none⟩) n N) (w.drew.alloc (.cells (Builtin.zeroCells z.cells n++Builtin.zeroCells z.cells (N-n)) e)):=by
  refine⟨grownCap w n 0 e,by have:=grownCap_ge w n 0 e;omega,?_⟩
  have hw:IntKind.wrap .i64 (n:Int)=n:=by simp [IntKind.wrap,IntKind.bits,IntKind.signed];omega
  have h63':¬(9223372036854775807<(n:Int)):=by omega
  have hneg:¬((n:Int)<0):=by omega
  have hfit:=growslice_fits (need:=n) (old:=0) (by omega) hb
  have h48':¬(281474976710656<Builtin.nextslicecap n 0*ti.bytes):=by omega
  have h48:¬((281474976710656:Int)<(n:Int)*(ti.bytes:Int)):=by
    have h:=Int.ofNat_le.2 hb
    rw [Int.natCast_mul] at h
    generalize (n:Int)*(ti.bytes:Int)=y at *
    omega
  have hne:(Question.appendCap n 0 e).forced=false:=rfl
  have hai:∀ w,(asIntOf (.int .i64 (n:Int))).run P w=.ok (.i64,(n:Int)) w:=fun w=>rfl
  simp [Builtin.append_,qbj P ht,qbj P ht',sizeOf,typeInfo,zeroValue,hi,hz,asInt,hai,hw,hneg,h48,h63',h48',hne,Builtin.firstCells,newRow,grownCap]
  have hm:n*ti.size≠0:=Nat.mul_ne_zero (by omega) (by omega)
  rw [if_neg (by omega),if_neg hm]
theorem qg4 {i:Inj} {z:Value} (hz:z.cells.all scal=true) (n:Nat):VRs i (Builtin.zeroCells z.cells n).toList (Builtin.zeroCells z.cells n).toList:=by
  have hall:∀ v∈(Builtin.zeroCells z.cells n).toList,scal v=true:=by
    intro v hv
    simp only [Builtin.zeroCells,Array.toList_map,Array.toList_range,List.mem_map,List.mem_range] at hv
    obtain⟨k,hk,rfl⟩:=hv
    have hpos:0<z.cells.size:=by
      rcases Nat.eq_zero_or_pos z.cells.size with h|h
      · rw [h] at hk;simp at hk
      · exact h
    have hlt:k % z.cells.size<z.cells.size:=Nat.mod_lt _ hpos
    rw [getElem!_pos z.cells _ hlt]
    exact (Array.all_eq_true.1 hz) _ hlt
  generalize (Builtin.zeroCells z.cells n).toList=l at hall
  clear hz
  induction l with
  | nil=>exact .nil
  | cons a l ih=>exact .cons (VR.of_scal (hall a (by simp)) i) (ih (fun v hv=>hall v (by simp [hv])))
theorem runSim_apz {P:Program} {o:Oper} {x y:Operand} {t t' e:TypeId} {k:IntKind} {ti:TypeInfo} {z:Value} (ho:o.op=.call { callee:=.builtin .append,args:=#[x,y],argTypes:=#[t,t'] }) (ht:P.underlying t=some (.slice e)) (ht':P.underlying t'=some (.int k)) (hi:P.info? e=some ti) (hz:ti.zero=some z)
    (hsc:z.cells.all scal=true) (hsz:z.cells.size=ti.size) (hpos:0<ti.size) {n:Int} (h0:0<n) (hb:n*ti.bytes≤140737488355328) (h63:n≤9223372036854775807) {H:AH} :
    RunSim P o [.slice none 0 0,.int .i64 n] H (.slice (some ⟨H.length,0,none⟩) n.toNat n.toNat) (H++[.cells (Builtin.zeroCells z.cells n.toNat).toList e (some ti.size) false]):=by
  obtain⟨m,rfl⟩:=Int.eq_ofNat_of_zero_le (show 0≤n by omega)
  intro i w vs' hr hvs ρ hρ
  obtain⟨s',u',rfl,hs',hu⟩:=hvs.two
  have hρ2:ρ x=s'∧ρ y=u':=by rw [ho] at hρ;simpa [Op.operands,Call.operands] using hρ
  obtain⟨hx,hy⟩:=hρ2
  cases hs'
  cases hu
  have hb':m*ti.bytes≤140737488355328:=by
    have:((m*ti.bytes:Nat):Int)≤140737488355328:=by rw [Int.natCast_mul];exact hb
    omega
  obtain⟨N,hN,hrun⟩:=qnw (P:=P) w (ty:=o.type) ht ht' hi hz m (by omega) hpos hb' (by omega)
  have hg:=qqq hr (e:=e) (qg4 (i:=i) hsc m) m N ti.size hsz
  refine⟨_,_,_,hg.2,hg.1,?_,.inl (qhc ho ρ w _ _ (by rw [hx,hy,hrun]))⟩
  have hup:=Inj.upd_same i H.length ⟨w.heap.size,0,ti.size,N-m⟩
  rw [Int.toNat_natCast]
  exact .slice (a:=⟨H.length,0,none⟩) (L:=⟨w.heap.size,0,ti.size,N-m⟩) hup rfl (.inr (by simp only [];omega))
theorem runSim_capNil {P:Program} {o:Oper} {x:Operand} {t e:TypeId} (ho:o.op=.call { callee:=.builtin .cap,args:=#[x],argTypes:=#[t] }) (ht:P.underlying t=some (.slice e)) {H:AH}:RunSim P o [.slice none 0 0] H (.int .i64 0) H:=by
  refine RunSim.pure_ fun i vs' hv ρ hρ=>?_
  obtain⟨u',rfl,hu⟩:=hv.one
  have hρ2:ρ x=u':=by rw [ho] at hρ;simpa [Op.operands,Call.operands] using hρ
  cases hu
  refine⟨_,.int _ _,fun w=>?_⟩
  have e0:Array.map ρ #[x] = #[ρ x]:=by simp
  rw [qb6 ho,e0,hρ2]
  simp [builtin,Builtin.cap_,qbj P ht,goInt]
end Go.Sim
