/- Part of the proof: SimE3, SimE4. -/
import Derived.Test.YtbfpepbfpebmmaaGreatTLinSimF2
import Derived.Laws.Externs
import Derived.KernelRfl
set_option linter.all false
namespace Go.Sim
open Go
def qh0:Array Value→Sem Value:=fun args=>do
  let (x,y,b) ←Extern.MathBitsCarry.three "Sub64" args
  pure (Extern.MathBitsCarry.pair ((x+Extern.MathBitsCarry.m64-y-b) % Extern.MathBitsCarry.m64) (if x<y+b then 1 else 0))
theorem find_add64 {fn:Func} (h:fn.name = "math/bits.Add64"):Extern.find fn=some add64Entry:=by
  have h1:Extern.allGenericRows.lookup "math/bits.Add64" = none:=by kernel_rfl
  have h2:Extern.allTypedRows.lookup "math/bits.Add64" = none:=by kernel_rfl
  have h3:Extern.allRows.lookup "math/bits.Add64" = some add64Entry:=by kernel_rfl
  unfold Extern.find
  simp [h,h1,h2,h3]
theorem find_sub64 {fn:Func} (h:fn.name = "math/bits.Sub64"):Extern.find fn=some qh0:=by
  have h1:Extern.allGenericRows.lookup "math/bits.Sub64" = none:=by kernel_rfl
  have h2:Extern.allTypedRows.lookup "math/bits.Sub64" = none:=by kernel_rfl
  have h3:Extern.allRows.lookup "math/bits.Sub64" = some qh0:=by kernel_rfl
  unfold Extern.find
  simp [h,h1,h2,h3]
theorem run_sub64 {P:Program} (x y c:Int) (hx:0≤x) (hy:0≤y) (hy2:y<18446744073709551616) (hc0:0≤c) (hc:c≤1) (w:World) :
    (qh0 #[.int .u64 x,.int .u64 y,.int .u64 c]).run P w=.ok (.tuple #[.int .u64 ((x+18446744073709551616-y-c) % 18446744073709551616),.int .u64 (if x<y+c then 1 else 0)]) w:=by
  have key:∀ k:Nat,k≤1→(qh0 #[.int .u64 x,.int .u64 y,.int .u64 (k:Int)]).run P w =
      .ok (Extern.MathBitsCarry.pair ((x.toNat+Extern.MathBitsCarry.m64-y.toNat-k) % Extern.MathBitsCarry.m64) (if x.toNat<y.toNat+k then 1 else 0)) w:=by
    intro k hk
    have:k=0∨k=1:=by omega
    rcases this with rfl|rfl<;>rfl
  obtain⟨k,rfl⟩:=Int.eq_ofNat_of_zero_le hc0
  rw [key k (by omega)]
  obtain⟨X,rfl⟩:=Int.eq_ofNat_of_zero_le hx
  obtain⟨Y,rfl⟩:=Int.eq_ofNat_of_zero_le hy
  have h1:X+18446744073709551616-Y-k=X+18446744073709551616-(Y+k):=by omega
  simp only [Extern.MathBitsCarry.pair,Extern.MathBitsCarry.m64,Int.toNat_natCast]
  have e1:Int.ofNat ((X+2 ^ 64-Y-k) % 2 ^ 64)=((X:Int)+18446744073709551616-Y-k) % 18446744073709551616:=by
    simp only [Int.ofNat_eq_natCast];omega
  have e2:Int.ofNat (if X<Y+k then 1 else 0)=if (X:Int)<Y+k then 1 else 0:=by
    by_cases h:X<Y+k
    · rw [if_pos h,if_pos (by omega)];rfl
    · rw [if_neg h,if_neg (by omega)];rfl
  rw [e1,e2]
def ext3V (b:Bool) (x y c:Int):Value:=if b then .tuple #[.int .u64 ((x+y+c) % 18446744073709551616),.int .u64 ((x+y+c) / 18446744073709551616)] else .tuple #[.int .u64 ((x+18446744073709551616-y-c) % 18446744073709551616),.int .u64 (if x<y+c then 1 else 0)]
theorem ext3V_rel {i:Inj} {b:Bool} {x y c:Int}:VR i (ext3V b x y c) (ext3V b x y c):=by
  cases b<;>exact VRs.tup (.cons (.int _ _) (.cons (.int _ _) .nil))
theorem runSim_ext3 {P:Program} {o:Oper} {cl:Call} {g:FuncId} {fn:Func} {b:Bool} (ho:o.op=.call cl) (hc:cl.callee=.value (.func g)) (hf:P.funcs[g]? = some fn) (hb:fn.body.isNone=true) (hn:Extern.findNext fn=none)
    (hname:fn.name=if b then "math/bits.Add64" else "math/bits.Sub64") {x y c:Int} (hx:0≤x) (hy:0≤y) (hy2:y<18446744073709551616) (hc0:0≤c) (hc1:c≤1) {H:AH} :
    RunSim P o [.func (.func g) #[] #[],.int .u64 x,.int .u64 y,.int .u64 c] H (ext3V b x y c) H:=by
  refine RunSim.pure_ fun i vs' hv ρ hρ=>⟨_,ext3V_rel,fun w=>?_⟩
  cases hv with
  | cons hf1 hv =>
  cases hv with
  | cons h1 hv =>
  cases hv with
  | cons h2 hv =>
  cases hv with
  | cons h3 hv =>
  cases hv
  cases h1
  cases h2
  cases h3
  cases hf1 with
  | func hfn hs1 k1 hs2 k2 =>
  rename_i fn' first' cap'
  cases hfn
  have e1:first' = #[]:=by apply Array.eq_empty_of_size_eq_zero;simpa using hs1.symm
  have e2:cap' = #[]:=by apply Array.eq_empty_of_size_eq_zero;simpa using hs2.symm
  subst e1 e2
  have hop:o.op.operands.toList=.func g :: cl.args.toList:=by rw [ho];simp [Op.operands,Call.operands,hc]
  rw [hop] at hρ
  simp only [List.map_cons,List.cons.injEq] at hρ
  obtain⟨q1,q2⟩:=hρ
  have ha:(cl.args.map ρ) = #[.int .u64 x,.int .u64 y,.int .u64 c]:=by
    apply Array.ext'
    simpa using q2
  have hng:(fn.name == "runtime.NumGoroutine")=false:=by rw [hname];cases b<;>rfl
  have hcall:(callFunc g #[.int .u64 x,.int .u64 y,.int .u64 c]).run P w=.ok (.value (ext3V b x y c)) w:=by
    cases b with
    | true =>
      rw [run_callFunc_extern hf hng hb hn (find_add64 hname),run_add64 x y c hx hy hc0 hc1]
      rfl
    | false =>
      rw [run_callFunc_extern hf hng hb hn (find_sub64 hname),run_sub64 x y c hx hy hy2 hc0 hc1]
      rfl
  unfold execOp
  rw [ho]
  simp only [resolve,hc,q1,ha,Deferred.ofValue,Sem.run_bind,Sem.run_pure,Result.andThen_ok,invoke]
  simpa using hcall
theorem qnx {P:Program} {t:TypeId} {x y:Operand} {o:Oper} (ho:o.op=.index t x y) (ht:P.underlying t=some .string) {s:ByteArray} {k:IntKind} {n:Int} {b:UInt8} (h0:0≤n) (hb:s[n.toNat]? = some b) {H:AH}:RunSim P o [.string s,.int k n] H (.int .u8 b.toNat) H:=by
  refine RunSim.pure_ fun i vs' hvs ρ hρ=>?_
  obtain⟨u',n',rfl,h1,h2⟩:=hvs.two
  cases h2
  cases h1
  rw [ho] at hρ
  simp [Op.operands] at hρ
  refine⟨_,.int _ _,fun w=>?_⟩
  unfold execOp
  rw [ho]
  simp [Instr.index,hρ.1,hρ.2,asIntOf,qbj P ht,h0,hb]
end Go.Sim

namespace Go.Sim
open Go
theorem qnv {P:Program} (w:World) (len cap:Nat) {k1 k2 k3:IntKind} {l h m:Int} (h0:0≤l) (h1:l≤h) (h2:h≤m) (h3:m≤cap) :
    (Instr.sliceBounds true len cap (some (.int k1 l)) (some (.int k2 h)) (some (.int k3 m))).run P w=.ok (l.toNat,h.toNat,m.toNat) w:=by
  have em:((m.toNat:Nat):Int)=m:=Int.toNat_of_nonneg (by omega)
  have eh:((h.toNat:Nat):Int)=h:=Int.toNat_of_nonneg (by omega)
  simp [Instr.sliceBounds,run_sliceBound w k3 m cap _ (by omega) h3,run_sliceBound w k2 h m.toNat _ (by omega) (by omega),run_sliceBound w k1 l h.toNat _ h0 (by omega)]
theorem runSim_slice3 {P:Program} {t e:TypeId} {x lo hi mx:Operand} {o:Oper} {sz:Nat} (ho:o.op=.slice t x (some lo) (some hi) (some mx)) (ht:slT P t=some e) (hs:szT P e=some sz) {a:Addr} {n c:Nat} {k1 k2 k3:IntKind} {l h m:Int} (hsp:a.spot=none)
    (h0:0≤l) (h1:l≤h) (h2:h≤m) (h3:m≤c) (hlm:l<m) {H:AH} :
    RunSim P o [.slice (some a) n c,.int k1 l,.int k2 h,.int k3 m] H (.slice (some ⟨a.block,a.off+l.toNat*sz,none⟩) (h.toNat-l.toNat) (m.toNat-l.toNat)) H:=by
  refine RunSim.pure_ fun i vs' hv ρ hρ=>?_
  cases hv with
  | cons hu hv =>
  cases hv with
  | cons h1' hv =>
  cases hv with
  | cons h2' hv =>
  cases hv with
  | cons h3' hv =>
  cases hv
  have e1:=h1'.int_inv
  have e2:=h2'.int_inv
  have e3:=h3'.int_inv
  subst e1 e2 e3
  rw [ho] at hρ
  simp [Op.operands] at hρ
  obtain⟨he,hl,hh,hm⟩:=hρ
  unfold slT at ht
  split at ht
  · rename_i e' hut
    cases ht
    cases hu with
    | slice hb hsp' hcc =>
      rename_i L c'
      have hcle:c≤c':=by rcases hcc with rfl|rfl<;>omega
      refine⟨.slice (some ⟨L.blk,L.base+(a.off+l.toNat*sz),none⟩) (h.toNat-l.toNat) (m.toNat-l.toNat),.slice (a:=⟨a.block,a.off+l.toNat*sz,none⟩) hb rfl (.inl rfl),fun w=>?_⟩
      have hB:=qnv (P:=P) w n c' (k1:=k1) (k2:=k2) (k3:=k3) h0 h1 h2 (show m≤(c':Int) by omega)
      have hne:¬m.toNat=l.toNat:=by omega
      unfold execOp
      rw [ho]
      simp only [he,hl,hh,hm,Option.map_some,Sem.run_bind,Instr.sliceAt,qbj P hut,Result.andThen_ok,Instr.slice,hB,qbw P hs,Sem.run_pure,qf1,if_neg hne,Nat.add_assoc]
    | vague hs'=>rw [hsp] at hs';cases hs'
  · cases ht
theorem runSim_clear {P:Program} {o:Oper} {x:Operand} {t e:TypeId} {ti:TypeInfo} {z:Value} (ho:o.op=.call { callee:=.builtin .clear,args:=#[x],argTypes:=#[t] }) (ht:P.underlying t=some (.slice e)) (hi:P.info? e=some ti) (hz:ti.zero=some z) (hsc:z.cells.all scal=true)
    {a:Addr} {l c:Nat} {cc:List Value} {ee:TypeId} {opn:Option Nat} {H:AH} (hH:H[a.block]? = some (.cells cc ee opn false)) (hsp:a.spot=none) (hl:0<l) (h1:(Builtin.zeroCells z.cells l).toList.all one=true) (hfit:a.off+(Builtin.zeroCells z.cells l).toList.length≤cc.length) :
    RunSim P o [.slice (some a) l c] H (.tuple #[]) (H.set a.block (.cells (qcq cc a.off (Builtin.zeroCells z.cells l).toList) ee opn false)):=by
  intro i w vs' hr hvs ρ hρ
  obtain⟨s',rfl,hs'⟩:=hvs.one
  have hx:ρ x=s':=by rw [ho] at hρ;simpa [Op.operands,Call.operands] using hρ
  cases hs' with
  | vague hsv=>rw [hsp] at hsv;cases hsv
  | slice hb hspp hcc =>
    rename_i L c'
    obtain⟨w',b0,hst,hrel,hext⟩:=qdz (P:=P) hr hb hH (qg4 (i:=i) hsc l) h1 hfit
    refine⟨i,w',.tuple #[],hext,hrel,VRs.tup .nil,.inl ?_⟩
    have e0:Array.map ρ #[x] = #[ρ x]:=by simp
    have hne:l≠0:=by omega
    rw [qb6 ho,e0,hx]
    obtain⟨l',rfl⟩:∃ l',l=l'+1:=⟨l-1,by omega⟩
    simp [builtin,Builtin.clear_,qbj P ht,zeroValue,typeInfo,hi,hz,b0,hst]
end Go.Sim
