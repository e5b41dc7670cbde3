/- The law ModifyMatchesReference holds: its row, out of its walk. No condition. -/
import Derived.Test.YtbfpepbfpebmmaaGreatRows
import Derived.Test.YtbfpepbfpebmmaaGreatMMatMtRow
import Derived.WalkKit
import Derived.ProofKit
import Derived.OpenShut
import Derived.ShutString
import Derived.ChangeOld
import Derived.Below
import Derived.Carry
import Derived.SizedLaws
set_option linter.all false
namespace Go.Proofs.YtbfpepbfpebmmaaGreat.modifyMatchesReference
open Go.ChangeShapes Go.WideShapes Go.ChangeAt Go.RowKit
theorem own:ownKnob Tryz.prog.godebug=none:=by kernel_rfl
theorem laidOut:laidOutB Tryz.prog=true:=by kernel_rfl
set_option maxRecDepth 100000 in
theorem lifted (os:Os) (started:os.Started) (H:Type) (enc:TypeId×Value→H) :
    ReturnsInHanded {} Tryz.checked os 3 .any (Rows.modifyMatchesReferenceSpec.pre6 enc Tryz.prog Tryz.f3 Rows.modifyMatchesReferenceRow.domain false) (Rows.modifyMatchesReferenceSpec.post enc Tryz.prog Tryz.f3 false true false false):=by
  refine returnsInHanded_of_change_sized (C:=Tryz.checked) own started (by kernel_rfl) Tryz.func3
    (ChangeSpec.witness6 (enc:=enc) (C:=Tryz.checked) false ⟨#[],#[.agg #[.int .u8 0,.int .u8 0,.int .u8 0,.slice none 0 0],.agg #[.int .u8 0,.int .u8 0,.int .u8 0,.slice none 0 0],.agg #[.int .u8 0,.int .u8 0,.int .u8 0,.int .u8 0,.int .u8 0,.int .u8 0]],[]⟩ 8 (by kernel_rfl) (by kernel_rfl) (by kernel_rfl) (by kernel_rfl)) ?_
  intro W base args ds gs before hval0 hW hcnd hsz0 _
  have hval:∀ (j:Nat) t v,Tryz.f3.params[j]? = some t→args[j]? = some v→Value.okWide Tryz.prog W .any base t v:=hval0
  have hW':=hW
  obtain⟨p,q,hA0,hV,rfl,hfz,hnd⟩:=hW
  have hA:DataW.TrodAll enc Tryz.prog W 0 (fun _=>true) true Tryz.f3.params.toList args.toList ds p:=hA0
  rw [Tryz.params3] at hA hval
  obtain⟨v0,vs0,d0,ds0,p0,q0,hargs,rfl,rfl,h0,r0⟩:=trodAll_cons hA
  obtain⟨v1,vs1,d1,ds1,p1,q1,rfl,rfl,rfl,h1,r1⟩:=trodAll_cons r0
  obtain⟨v2,vs2,d2,ds2,p2,q2,rfl,rfl,rfl,h2,r2⟩:=trodAll_cons r1
  obtain⟨rfl,rfl,rfl⟩:=trodAll_nil r2
  obtain rfl:args = #[v0,v1,v2]:=by cases args;simp_all
  obtain⟨rfl,rfl⟩:=trodVars_none hV
  have lt0:∀ x∈p0,x.block<W.heap.size:=fun x hx=>let ⟨fuel,hf⟩:=h0;DataW.trod_lt fuel _ _ _ hf x hx
  obtain⟨x0,Y0,j0,ns0,a0,b0,c0,A0,le0,R0,X0,w0,wa0,wb0,wc0⟩:=Go.Sim.ArgR.openRaw (Go.Sim.ArgR.nil W) Tryz.underlying24 (by kernel_rfl) Tryz.underlying5 Tryz.underlying5 Tryz.underlying5 Tryz.underlying22 ⟨rfl,rfl,rfl,rfl⟩ ⟨by kernel_rfl,by kernel_rfl,by kernel_rfl,by kernel_rfl⟩ Tryz.underlying5 (by kernel_rfl) (hval 0 24 v0 rfl rfl) h0
  have lt1:∀ x∈p1,x.block<W.heap.size:=fun x hx=>let ⟨fuel,hf⟩:=h1;DataW.trod_lt fuel _ _ _ hf x hx
  obtain⟨x1,Y1,j1,ns1,a1,b1,c1,A1,le1,R1,X1,w1,wa1,wb1,wc1⟩:=Go.Sim.ArgR.openRaw A0 Tryz.underlying24 (by kernel_rfl) Tryz.underlying5 Tryz.underlying5 Tryz.underlying5 Tryz.underlying22 ⟨rfl,rfl,rfl,rfl⟩ ⟨by kernel_rfl,by kernel_rfl,by kernel_rfl,by kernel_rfl⟩ Tryz.underlying5 (by kernel_rfl) (hval 1 24 v1 rfl rfl) h1
  obtain⟨ns2,l2,rfl,rfl,rfl,w2⟩:=open_ints_arr (N:=6) Tryz.underlying25 Tryz.underlying5 (by kernel_rfl) (by kernel_rfl) (hval 2 25 v2 rfl rfl) h2
  clear hA0 hval0
  refine (Go.Sim.mref_walk A1 (R0.mono le1) (X0.pre (Go.Sim.Pre.new _ _)) w0 wa0 wb0 wc0 R1 X1 w1 wa1 wb1 wc1 l2 w2).mono fun e W' ⟨he,bel⟩=>?_
  subst he
  exact⟨_,rfl,_,_,_,[],_,[],hW',trodAll_mk1 (shut_bool Tryz.underlying4 _),(trodAll_cons_mk (Below.trod laidOut (by kernel_rfl) (of_decide_eq_true (by kernel_rfl)) h0 bel lt0) (trodAll_cons_mk (Below.trod laidOut (by kernel_rfl) (of_decide_eq_true (by kernel_rfl)) h1 bel lt1) (trodAll_cons_mk (shut_ints_arr (N:=6) Tryz.underlying25 Tryz.underlying5 (by kernel_rfl) (by kernel_rfl) l2 w2) trodAll_mk0))),rfl,bel.frame _,fun h=>by cases h⟩
theorem over:Rows.modifyMatchesReferenceRow.holds Tryz.pinned (OpenSpec.ofChange Rows.modifyMatchesReferenceSpec):=
  OpenClaim.holds_of_wide 3 Tryz.f3 rfl rfl rfl rfl rfl rfl rfl ⟨rfl,rfl,rfl,rfl,rfl⟩ rfl rfl rfl rfl rfl (by kernel_rfl) Tryz.func3 (by kernel_rfl)
    (of_decide_eq_true (by kernel_rfl)) (by unfold Func.isWrapper;first|(rw [if_pos (by decide +kernel)];kernel_rfl)|(rw [if_neg (by decide +kernel)];exact⟨rfl,rfl⟩))
    (fun os started H enc _=>lifted os started H enc)
theorem proved:Rows.ModifyMatchesReferenceSaid:=over
#print axioms proved
end Go.Proofs.YtbfpepbfpebmmaaGreat.modifyMatchesReference
namespace Go.Proofs.YtbfpepbfpebmmaaGreat
theorem modifyMatchesReference_holds:Rows.ModifyMatchesReferenceSaid:=modifyMatchesReference.proved
end Go.Proofs.YtbfpepbfpebmmaaGreat
