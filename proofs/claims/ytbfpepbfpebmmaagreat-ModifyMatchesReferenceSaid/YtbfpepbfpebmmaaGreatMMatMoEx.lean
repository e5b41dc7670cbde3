/- Part of the proof: MoEx. -/
import Derived.Test.YtbfpepbfpebmmaaGreatMMatZPfFieldL
import Derived.Test.YtbfpepbfpebmmaaGreatMMatZPfFieldOToZPfFieldS
import Derived.Test.YtbfpepbfpebmmaaGreatMMatZPfFieldW0
import Derived.Test.YtbfpepbfpebmmaaGreatMMatZPfFieldK
import Derived.Test.YtbfpepbfpebmmaaGreatMMatSimX3ToSimTf
import Derived.Test.YtbfpepbfpebmmaaGreatMMatMoTToMoN
import Derived.Test.YtbfpepbfpebmmaaGreatMMatMoO
set_option linter.all false
set_option maxRecDepth 100000
namespace Go.Sim.Pf
open Go Go.Proofs
noncomputable def oF2 (g0:Nat) (fn:Nat→Nat→List Nat→Nat→Nat→Nat):qd4:=fun g args H=>bif Nat.beq g g0 then match args with
  | [f,.int .i64 (.ofNat x),.int .i64 (.ofNat y)]=>match fldOf H f with
    | some (p,e,m)=>bif Nat.blt x 1000 && Nat.blt y 1000 then qdf (fn p e m x y) fun n=>some (.int .i64 (.ofNat n),H) else none
    | none=>none
  | _=>none else none
theorem oF2_ok {g0:Nat} {fn:Nat→Nat→List Nat→Nat→Nat→Nat}
    (hs:∀ {p e b c x y:Nat} {m:List Nat} {H:AH} {el:TypeId} {op:Option Nat} {r:Bool},H[b]? = some (.cells (m.map nv) el op r)→m.length=e→(∀ z∈m,z<p)→2≤p→1≤e→e≤6→p ^ e≤64→x<1000→y<1000→FN Tryz.prog g0 [fldv p e b e c,nv x,nv y] H (fun v H'=>v=nv (fn p e m x y)∧H'=H)):CallOk Tryz.prog (oF2 g0 fn):=by
  intro g args H v H' h
  unfold oF2 at h
  cases hg:Nat.beq g g0 with
  | false=>rw [hg] at h;cases h
  | true =>
    rw [hg] at h
    simp only [cond_true] at h
    have hg:=Nat.eq_of_beq_eq_true hg
    subst hg
    split at h
    · rename_i f x y
      split at h
      · rename_i p e m hf
        cases hk:(Nat.blt x 1000 && Nat.blt y 1000) with
        | false=>rw [hk] at h;cases h
        | true =>
          rw [hk] at h
          simp only [cond_true,qjm] at h
          cases h
          simp only [Bool.and_eq_true] at hk
          obtain⟨⟨b,c,el,op,r,rfl,hb⟩,h1,h2,h3,h4,h5,h6⟩:=fldOf_ok hf
          exact⟨hs hb h1 h2 h3 h4 h5 h6 (Nat.le_of_ble_eq_true hk.1) (Nat.le_of_ble_eq_true hk.2),Keep.refl (Nat.le_refl _)⟩
      · cases h
    · cases h
noncomputable def oF1 (g0:Nat) (fn:Nat→Nat→List Nat→Nat→Nat) (K:Nat→Value):qd4:=fun g args H=>bif Nat.beq g g0 then match args with
  | [f,.int .i64 (.ofNat x)]=>match fldOf H f with
    | some (p,e,m)=>bif Nat.blt x 1000 then qdf (fn p e m x) fun n=>some (K n,H) else none
    | none=>none
  | _=>none else none
theorem oF1_ok {g0:Nat} {fn:Nat→Nat→List Nat→Nat→Nat} {K:Nat→Value}
    (hs:∀ {p e b c x:Nat} {m:List Nat} {H:AH} {el:TypeId} {op:Option Nat} {r:Bool},H[b]? = some (.cells (m.map nv) el op r)→m.length=e→(∀ z∈m,z<p)→2≤p→1≤e→e≤6→p ^ e≤64→x<1000→FN Tryz.prog g0 [fldv p e b e c,nv x] H (fun v H'=>v=K (fn p e m x)∧H'=H)):CallOk Tryz.prog (oF1 g0 fn K):=by
  intro g args H v H' h
  unfold oF1 at h
  cases hg:Nat.beq g g0 with
  | false=>rw [hg] at h;cases h
  | true =>
    rw [hg] at h
    simp only [cond_true] at h
    have hg:=Nat.eq_of_beq_eq_true hg
    subst hg
    split at h
    · rename_i f x
      split at h
      · rename_i p e m hf
        cases hk:(Nat.blt x 1000) with
        | false=>rw [hk] at h;cases h
        | true =>
          rw [hk] at h
          simp only [cond_true,qjm] at h
          cases h
          obtain⟨⟨b,c,el,op,r,rfl,hb⟩,h1,h2,h3,h4,h5,h6⟩:=fldOf_ok hf
          exact⟨hs hb h1 h2 h3 h4 h5 h6 (Nat.le_of_ble_eq_true hk),Keep.refl (Nat.le_refl _)⟩
      · cases h
    · cases h
noncomputable def oTw:qd4:=fun g args H=>bif Nat.beq g 128 then match args with
  | [.slice (some ⟨b,0,none⟩) l c,.pointer (some ⟨bf,0,none⟩)]=>match H[b]?,H[bf]? with
    | some (.cells [.int .i64 (.ofNat x),.int .i64 (.ofNat y)] _ _ _),some (.cells [.int .i64 (.ofNat p),.int .i64 (.ofNat e),.slice (some ⟨bl,0,none⟩) n1 n2] ty none false)=>match H[bl]? with
      | some (.cells [.int .i64 (.ofNat m0),.int .i64 (.ofNat m1)] t2 (some o) false) =>
        bif Nat.beq l 2 && (Nat.beq c 2 && (Nat.blt x 4 && (Nat.blt y 4 && (Nat.beq p 2 && (Nat.beq e 2 && (Nat.beq n1 2 && (Nat.beq n2 2 && (Nat.beq ty 76 && (Nat.beq m0 1 && (Nat.beq m1 1 && (Nat.beq t2 3 && Nat.beq o 1))))))))))) then
          qdf (mulF 2 2 [1,1] 2 x) fun x'=>qdf (mulF 2 2 [1,1] 2 y) fun y'=>some (.slice (some ⟨H.length,0,none⟩) 2 2,H++[.cells [.int .i64 (.ofNat x'),.int .i64 (.ofNat y')] 3 (some 1) false]) else none
      | _=>none
    | _,_=>none
  | _=>none else none
theorem oTw_ok:CallOk Tryz.prog oTw:=by
  intro g args H v H' h
  unfold oTw at h
  cases hg:Nat.beq g 128 with
  | false=>rw [hg] at h;cases h
  | true =>
    rw [hg] at h
    simp only [cond_true] at h
    have hg:=Nat.eq_of_beq_eq_true hg
    subst hg
    split at h
    · rename_i b l c bf
      split at h
      · rename_i x y e0 o0 r0 p e bl n1 n2 ty hb hf
        split at h
        · rename_i m0 m1 t2 o hbl
          cases hk:(Nat.beq l 2 && (Nat.beq c 2 && (Nat.blt x 4 && (Nat.blt y 4 && (Nat.beq p 2 && (Nat.beq e 2 && (Nat.beq n1 2 && (Nat.beq n2 2 && (Nat.beq ty 76 && (Nat.beq m0 1 && (Nat.beq m1 1 && (Nat.beq t2 3 && Nat.beq o 1)))))))))))) with
          | false=>rw [hk] at h;cases h
          | true =>
            rw [hk] at h
            simp only [cond_true,qjm] at h
            cases h
            simp only [Bool.and_eq_true] at hk
            obtain⟨k1,k2,k3,k4,k5,k6,k7,k8,k9,k10,k11,k12,k13⟩:=hk
            have k1:=Nat.eq_of_beq_eq_true k1
            have k2:=Nat.eq_of_beq_eq_true k2
            have k3:x<4:=Nat.le_of_ble_eq_true k3
            have k4:y<4:=Nat.le_of_ble_eq_true k4
            have k5:=Nat.eq_of_beq_eq_true k5
            have k6:=Nat.eq_of_beq_eq_true k6
            have k7:=Nat.eq_of_beq_eq_true k7
            have k8:=Nat.eq_of_beq_eq_true k8
            have k9:=Nat.eq_of_beq_eq_true k9
            have k10:=Nat.eq_of_beq_eq_true k10
            have k11:=Nat.eq_of_beq_eq_true k11
            have k12:=Nat.eq_of_beq_eq_true k12
            have k13:=Nat.eq_of_beq_eq_true k13
            subst k1 k2 k5 k6 k7 k8 k9 k10 k11 k12 k13
            letI:=flOf ft4
            have F:=fokOf ft4 (by decide +kernel) bl
            have hrow:Row H (.slice (some ⟨b,0,none⟩) 2 2) (evs (fun x:{n:Nat // n<2 ^ 2}=>x.1) [⟨x,k3⟩,⟨y,k4⟩]):=Row.of hb rfl (Nat.le_refl _)
            have:=twice_x F (two:=(⟨2,by decide⟩:{n:Nat // n<2 ^ 2})) rfl hrow hf hbl (by simp) (by simp)
            exact⟨this,Keep.app (Nat.le_refl _) _⟩
        · cases h
      · cases h
    · cases h
noncomputable def oFld:qd4:=orO oMul (orO (oF2 115 fun p e _ x y=>subF p e x y) (orO (oF1 142 (fun p e m x=>(powZ p e m x (-1)).1*64+(powZ p e m x (-1)).2) fun n=>.tuple [nv (n / 64),nv (n % 64)].toArray) (orO (oKn 111 kMake0) oTw)))
theorem powZ_err (p e:Nat) (m:List Nat) (x:Nat):(powZ p e m x (-1)).2<64:=by
  unfold powZ
  split
  · simp
  · split<;>simp
theorem oFld_ok:CallOk Tryz.prog oFld:=by
  refine CallOk.or oMul_ok (CallOk.or (oF2_ok ?_) (CallOk.or (oF1_ok ?_) (CallOk.or (oKn_ok qd0) oTw_ok)))
  · intro p e b c x y m H el op r hb h1 h2 h3 h4 h5 h6 hx hy
    exact sub_spec h3 h4 h5 rfl h6 hx hy
  · intro p e b c x m H el op r hb h1 h2 h3 h4 h5 h6 hx
    have hz:=powZ_err p e m x
    have e1:((powZ p e m x (-1)).1*64+(powZ p e m x (-1)).2) / 64=(powZ p e m x (-1)).1:=by omega
    have e2:((powZ p e m x (-1)).1*64+(powZ p e m x (-1)).2) % 64=(powZ p e m x (-1)).2:=by omega
    rw [e1,e2]
    exact inv_spec hb h1 h2 h3 h4 h5 h6 hx
noncomputable def xfTE (g:FuncId):Option XF:=Tf.xfF Tryz.prog g
theorem xfTE_ok (g:FuncId) (xf:XF) (h:xfTE g=some xf):qb8 Tryz.prog g=some xf:=Tf.xfF_ok g xf h
def wrE (g:Nat):Bool:=Nat.beq g 205 || (Nat.beq g 219 || (Nat.beq g 220 || (Nat.beq g 178 || Nat.beq g 180)))
theorem exM_run:kChk (callM xfTE oFld wrE 100 14 0 11 [] []) (.val (.bool true))=true:=by kernel_rfl
theorem exM_known:qnj Tryz.prog 11 [] (.val (.bool true)):=known_ofM qbt xfTE_ok oFld_ok rfl exM_run
theorem exMo:ExMo:=fun H=>exM_known H
end Go.Sim.Pf
