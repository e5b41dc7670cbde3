/- Part of the proof: ZTrA, ZTrB, ZTrC, TlD, TlE, TlX, ZTlL, TlF, ZShFr. -/
import Derived.Test.YtbfpepbfpebmmaaGreatTLinZRtIToZRtJ
import Derived.Test.YtbfpepbfpebmmaaGreatTLinTrK
import Derived.Test.YtbfpepbfpebmmaaGreatTLinTlAToZZzXfT
import Derived.Test.YtbfpepbfpebmmaaGreatTLinSimWToSimX2
import Derived.Test.YtbfpepbfpebmmaaGreatTLinTlMToZRtH
import Derived.Test.YtbfpepbfpebmmaaGreatTLinMoYToMpD
import Derived.Test.YtbfpepbfpebmmaaGreatTLinMoAToZTlA
import Derived.Test.YtbfpepbfpebmmaaGreatTLinSimX3ToShD
import Derived.Test.YtbfpepbfpebmmaaGreatTLinZShMixToZPfFieldI
import Derived.Test.YtbfpepbfpebmmaaGreatTLinShSToXfS
import Derived.KernelRfl
import Derived.Test.YtbfpepbfpebmmaaGreatTLinMpL
import Derived.Test.YtbfpepbfpebmmaaGreatTLinShLw
set_option linter.all false
namespace Go.Sim
open Go Go.Proofs Kr
section
variable {H:AH}
theorem u_neq0 {x m:Nat}:xbin .neq m (uw x) (.int .u64 0)=some (.bool (!decide (x=0))):=by
  simp only [xbin,if_true];congr 2;rw [Bool.eq_iff_iff];simp
theorem qrn {q n:Int}:FN Tryz.prog 154 [zv q,zv n] H (fun r H'=>r=.bool (decide (2≤q∧q≤16∧0≤n∧n≤24))∧H'=H):=by
  refine g154_of ?_
  unfold g154
  have e1:xbin .geq 0 (zv q) (nv 2)=some (.bool (decide (2≤q))):=by simp [xbin]
  have e2:xbin .leq 0 (zv q) (nv 16)=some (.bool (decide (q≤16))):=by simp [xbin]
  have e3:xbin .geq 0 (zv n) (nv 0)=some (.bool (decide (0≤n))):=by simp [xbin]
  have e4:xbin .leq 0 (zv n) (nv 24)=some (.bool (decide (n≤24))):=by simp [xbin]
  by_cases h1:2≤q
  · rw [decide_eq_true h1] at e1
    by_cases h2:q≤16
    · rw [decide_eq_true h2] at e2
      by_cases h3:0≤n
      · rw [decide_eq_true h3] at e3
        simp (disch:=(first|omega|(simp only [qbf]<;>omega)|(simp only [qbd];done)|rfl)) only [zA,zB,zC,zD,zF,zG,zH,Nat.reduceEqDiff,Nat.reduceLT,Nat.reduceLeDiff,↓reduceIte,e1,e2,e3,e4]
        congr 1
        rw [decide_eq_decide]
        exact⟨fun h=>⟨h1,h2,h3,h⟩,fun h=>h.2.2.2⟩
      · rw [decide_eq_false h3] at e3
        simp (disch:=(first|omega|(simp only [qbf]<;>omega)|(simp only [qbd];done)|rfl)) only [zA,zB,zC,zD,zF,zG,zH,Nat.reduceEqDiff,Nat.reduceLT,Nat.reduceLeDiff,↓reduceIte,e1,e2,e3,e4]
        rw [decide_eq_false];exact fun h=>h3 h.2.2.1
    · rw [decide_eq_false h2] at e2
      simp (disch:=(first|omega|(simp only [qbf]<;>omega)|(simp only [qbd];done)|rfl)) only [zA,zB,zC,zD,zF,zG,zH,Nat.reduceEqDiff,Nat.reduceLT,Nat.reduceLeDiff,↓reduceIte,e1,e2,e3,e4]
      rw [decide_eq_false];exact fun h=>h2 h.2.1
  · rw [decide_eq_false h1] at e1
    simp (disch:=(first|omega|(simp only [qbf]<;>omega)|(simp only [qbd];done)|rfl)) only [zA,zB,zC,zD,zF,zG,zH,Nat.reduceEqDiff,Nat.reduceLT,Nat.reduceLeDiff,↓reduceIte,e1,e2,e3,e4]
    rw [decide_eq_false];exact fun h=>h1 h.1
theorem fits_c {q n L:Nat} (hq:2≤q∧q≤16) (hn:n≤24) (hL:L≤62):FN Tryz.prog 157 [nv q,nv n,nv L] H (fun r H'=>r=.bool (decide (q ^ n≤2 ^ L))∧H'=H):=by
  refine g157_of ?_
  unfold g157
  have hLL:2 ^ L≤2 ^ 62:=Nat.pow_le_pow_right (by omega) hL
  have hmono:∀ k,k≤n→q ^ k≤q ^ n:=fun k hk=>Nat.pow_le_pow_right (by omega) hk
  refine loopV2.nat n (fun k x v H'=>v=nv k∧H'=H∧x=uw (q ^ k)∧q ^ k≤2 ^ L) ⟨rfl,rfl,by simp,by simpa using Nat.one_le_two_pow⟩ ?_ ?_
  · rintro k x v H1 hk ⟨rfl,rfl,rfl,hx⟩ J hJ
    have u1:=c_u64 (d:=q) (by omega)
    simp (disch:=(first|omega|(simp only [qbf]<;>omega)|(simp only [qbd];done)|rfl)) only [zA,zB,zC,zD,zF,zG,zH,Nat.reduceEqDiff,Nat.reduceLT,Nat.reduceLeDiff,↓reduceIte,hk,u1]
    refine FZ.use (mul64_c (by omega) (by omega)) ?_
    have hp:q ^ k*q=q ^ (k+1):=(Nat.pow_succ ..).symm
    have hpl:q ^ k*q≤2 ^ 62*16:=Nat.mul_le_mul (by omega) hq.2
    rw [hp] at hpl ⊢
    have hn':=hmono (k+1) (by omega)
    have hk1:k+1<1000:=by omega
    have e1:xbin .neq 0 (uw (q ^ (k+1) / 18446744073709551616)) (.int .u64 0)=some (.bool (!decide (q ^ (k+1) / 18446744073709551616=0))):=by
      exact u_neq0
    have e2:xbin .shl 0 (.int .u64 1) (nv L)=some (uw (2 ^ L)):=by
      have:xbin .shl 0 (.int .u64 1) (nv L)=some (.int .u64 (IntKind.u64.wrap (1*2 ^ (min L 64)))):=by
        simp only [xbin];rw [if_pos (by omega)];rfl
      rw [this,wrapU,Nat.min_eq_left (by omega),Int.one_mul]
      have h2:((2:Int) ^ L)=((2 ^ L:Nat):Int):=by simp
      rw [h2]
      congr 2;omega
    have e3:=u_gtr (a:=q ^ (k+1) % 18446744073709551616) (b:=2 ^ L) (m:=0)
    by_cases h0:q ^ (k+1) / 18446744073709551616=0
    · rw [decide_eq_true h0] at e1
      by_cases h1:2 ^ L<q ^ (k+1) % 18446744073709551616
      · rw [decide_eq_true h1] at e3
        simp (disch:=(first|omega|(simp only [qbf]<;>omega)|(simp only [qbd];done)|rfl)) only [zA,zB,zC,zD,zF,zG,zH,Nat.reduceEqDiff,Nat.reduceLT,Nat.reduceLeDiff,↓reduceIte,e1,e2,e3]
        rw [decide_eq_false];omega
      · rw [decide_eq_false h1] at e3
        simp (disch:=(first|omega|(simp only [qbf]<;>omega)|(simp only [qbd];done)|rfl)) only [zA,zB,zC,zD,zF,zG,zH,Nat.reduceEqDiff,Nat.reduceLT,Nat.reduceLeDiff,↓reduceIte,e1,e2,e3,hk1]
        refine hJ _ _ _ ⟨rfl,rfl,?_,by omega⟩
        rw [Nat.mod_eq_of_lt (by omega)]
    · rw [decide_eq_false h0] at e1
      simp (disch:=(first|omega|(simp only [qbf]<;>omega)|(simp only [qbd];done)|rfl)) only [zA,zB,zC,zD,zF,zG,zH,Nat.reduceEqDiff,Nat.reduceLT,Nat.reduceLeDiff,↓reduceIte,e1]
      rw [decide_eq_false];omega
  · rintro x v H1 ⟨rfl,rfl,rfl,hx⟩ J
    simp (disch:=(first|omega|(simp only [qbf]<;>omega)|(simp only [qbd];done)|rfl)) only [zA,zB,zC,zD,zF,zG,zH,Nat.reduceEqDiff,Nat.reduceLT,Nat.reduceLeDiff,↓reduceIte]
    rw [decide_eq_true hx]
theorem power_c {a n:Nat} (ha:1≤a) (hn:n≤24) (h:a ^ n<9223372036854775808):FN Tryz.prog 158 [nv a,nv n] H (fun r H'=>r=nv (a ^ n)∧H'=H):=by
  refine g158_of ?_
  unfold g158
  have hmono:∀ k,k≤n→a ^ k≤a ^ n:=fun k hk=>Nat.pow_le_pow_right ha hk
  refine loopV2.nat n (fun k x v H'=>v=nv k∧H'=H∧x=nv (a ^ k)) ⟨rfl,rfl,by simp⟩ ?_ ?_
  · rintro k x v H1 hk ⟨rfl,rfl,rfl⟩ J hJ
    have hp:a ^ k*a=a ^ (k+1):=(Nat.pow_succ ..).symm
    have:=hmono (k+1) (by omega)
    have hb:a ^ k*a<9223372036854775808:=by omega
    have hk1:k+1<1000:=by omega
    simp (disch:=(first|omega|(simp only [qbf]<;>omega)|(simp only [qbd];done)|rfl)) only [zA,zB,zC,zD,zF,zG,zH,Nat.reduceEqDiff,Nat.reduceLT,Nat.reduceLeDiff,↓reduceIte,hk,hb,hk1]
    exact hJ _ _ _ ⟨rfl,rfl,congrArg (fun x=>nv x) hp⟩
  · rintro x v H1 ⟨rfl,rfl,rfl⟩ J
    simp (disch:=(first|omega|(simp only [qbf]<;>omega)|(simp only [qbd];done)|rfl)) only [zA,zB,zC,zD,zF,zG,zH,Nat.reduceEqDiff,Nat.reduceLT,Nat.reduceLeDiff,↓reduceIte]
theorem chS_tab:(allB 25 fun n=>allB 25 fun i=>decide (chS n i*(n-i)<4611686018427387904) && decide (chS n i<4611686018427387904))=true:=by decide +kernel
theorem chS_le {n i:Nat} (hn:n≤24) (hi:i≤24):chS n i*(n-i)<4611686018427387904∧chS n i<4611686018427387904:=by
  have h:=qc0 (qc0 chS_tab n (by omega)) i (by omega)
  simp only [Bool.and_eq_true,decide_eq_true_eq] at h
  exact h
theorem choose_c {n k:Nat} (hn:n≤24) (hk:k≤n):FN Tryz.prog 213 [nv n,nv k] H (fun r H'=>r=nv (chF n k)∧H'=H):=by
  refine g213_of ?_
  unfold g213
  have e1:qbc .min2 [nv k,nv (n-k)]=some (nv (min k (n-k))):=by
    simp only [qbc]
    rcases Nat.le_total k (n-k) with h|h
    · rw [Nat.min_eq_left h];simp;omega
    · rw [Nat.min_eq_right h];simp;omega
  have hkn:¬n<k:=by omega
  have hle:min k (n-k)≤24:=by omega
  have hln:min k (n-k)≤n:=by omega
  unfold chF
  rw [if_neg hkn]
  simp (disch:=(first|omega|(simp only [qbf]<;>omega)|(simp only [qbd];done)|rfl)) only [zA,zB,zC,zD,zF,zG,zH,Nat.reduceEqDiff,Nat.reduceLT,Nat.reduceLeDiff,↓reduceIte,hk,hkn,e1]
  generalize min k (n-k)=m at *
  refine loopV2.nat m (fun i x v H'=>v=nv i∧H'=H∧x=nv (chS n i)) ⟨rfl,rfl,by simp [chS]⟩ ?_ ?_
  · rintro i x v H1 hi ⟨rfl,rfl,rfl⟩ J hJ
    have hb:=(chS_le hn (show i≤24 by omega)).1
    have hi2:i≤n:=by omega
    have hi1:i+1<1000:=by omega
    simp (disch:=(first|omega|(simp only [qbf]<;>omega)|(simp only [qbd];done)|rfl)) only [zA,zB,zC,zD,zF,zG,zH,Nat.reduceEqDiff,Nat.reduceLT,Nat.reduceLeDiff,↓reduceIte,hi,hi2,hb,hi1]
    exact hJ _ _ _ ⟨rfl,rfl,rfl⟩
  · rintro x v H1 ⟨rfl,rfl,rfl⟩ J
    simp (disch:=(first|omega|(simp only [qbf]<;>omega)|(simp only [qbd];done)|rfl)) only [zA,zB,zC,zD,zF,zG,zH,Nat.reduceEqDiff,Nat.reduceLT,Nat.reduceLeDiff,↓reduceIte]
end
end Go.Sim

namespace Go.Sim
open Go Go.Proofs Kr
theorem pw_tab:(allB 25 fun m=>allB 25 fun b=>allB 15 fun q=>decide (m<b) || decide ((q+1) ^ b*chF m b≤(q+2) ^ m))=true:=by decide +kernel
theorem pw_le {q m b:Nat} (hq:2≤q∧q≤16) (hm:m≤24) (hb:b≤m):(q-1) ^ b*chF m b≤q ^ m:=by
  have h:=qc0 (qc0 (qc0 pw_tab m (by omega)) b (by omega)) (q-2) (by omega)
  simp only [Bool.or_eq_true,decide_eq_true_eq] at h
  rw [show q-2+1=q-1 by omega,show q-2+2=q by omega] at h
  omega
def sumN:Nat→(Nat→Nat)→Nat
  | 0,_=>0
  | n+1,f=>sumN n f+f n
theorem ch_tab:(allB 25 fun i=>decide (sumN (i+1) (chF i)=2 ^ i) && allB (i+1) fun j=>decide (1≤chF i j))=true:=by decide +kernel
theorem ch_sum {i:Nat} (hi:i≤24):sumN (i+1) (chF i)=2 ^ i:=by
  have h:=qc0 ch_tab i (by omega)
  simp only [Bool.and_eq_true,decide_eq_true_eq] at h
  exact h.1
theorem ch_pos {i j:Nat} (hi:i≤24) (hj:j≤i):1≤chF i j:=by
  have h:=qc0 ch_tab i (by omega)
  simp only [Bool.and_eq_true] at h
  have:=qc0 h.2 j (by omega)
  simpa using this
theorem qfk {f:Nat→Nat} {a b:Nat} (h:a≤b):sumN a f≤sumN b f:=by
  induction b with
  | zero => obtain rfl:a=0:=by omega
            exact Nat.le_refl _
  | succ b ih =>
    by_cases e:a=b+1
    · subst e;exact Nat.le_refl _
    · have:=ih (by omega);simp only [sumN];omega
def trN (q n k i j:Nat):Nat:=(q-1) ^ (k-j)*chF i j*chF (n-i) (k-j)
theorem trm_trN (q n k i j:Nat):trm q n k i j=(if j % 2=1 then -1 else 1)*(trN q n k i j:Int):=rfl
section
variable {q n k i:Nat} (hq:2≤q∧q≤16) (hn:n≤24) (hk:k≤n) (hi:i≤n) (hf:q ^ n≤2 ^ 62)
include hq hn hk hi
theorem trN_le {j:Nat} (h1:k-(n-i)≤j) (h2:j≤min k i):trN q n k i j≤q ^ (n-i)*chF i j∧(q-1) ^ (k-j)*chF i j≤q ^ (n-i)*chF i j∧(q-1) ^ (k-j)≤q ^ (n-i):=by
  have hp:=pw_le hq (m:=n-i) (b:=k-j) (by omega) (by omega)
  have hc:=ch_pos (i:=n-i) (j:=k-j) (by omega) (by omega)
  have h3:(q-1) ^ (k-j)≤q ^ (n-i):=Nat.le_trans (Nat.le_mul_of_pos_right _ hc) hp
  refine⟨?_,Nat.mul_le_mul_right _ h3,h3⟩
  unfold trN
  rw [Nat.mul_right_comm]
  exact Nat.mul_le_mul_right _ hp
theorem two_le:q ^ (n-i)*2 ^ i≤q ^ n:=by
  have:2 ^ i≤q ^ i:=Nat.pow_le_pow_left hq.1 i
  have h2:=Nat.mul_le_mul_left (q ^ (n-i)) this
  rwa [←Nat.pow_add,Nat.sub_add_cancel hi] at h2
theorem chN_le {j:Nat} (h2:j≤i):q ^ (n-i)*chF i j≤q ^ n:=by
  have h1:chF i j≤2 ^ i:=by
    rw [←ch_sum (i:=i) (by omega)]
    have:=qfk (f:=chF i) (show j+1≤i+1 by omega)
    simp only [sumN] at this ⊢
    omega
  exact Nat.le_trans (Nat.mul_le_mul_left _ h1) (two_le hq hn hk hi)
theorem sum_le {T:Nat} (hT:T≤min k i+1-(k-(n-i))):(sm T fun t=>trm q n k i (k-(n-i)+t)).natAbs≤q ^ n:=by
  have h:∀ T,T≤min k i+1-(k-(n-i))→(sm T fun t=>trm q n k i (k-(n-i)+t)).natAbs≤q ^ (n-i)*(sumN (k-(n-i)+T) (chF i)-sumN (k-(n-i)) (chF i)):=by
    intro T
    induction T with
    | zero=>intro _;simp [sm]
    | succ T ih =>
      intro hT
      have h1:=ih (by omega)
      have h2:=(trN_le hq hn hk hi (j:=k-(n-i)+T) (by omega) (by omega)).1
      have h3:(trm q n k i (k-(n-i)+T)).natAbs=trN q n k i (k-(n-i)+T):=by
        rw [trm_trN];split<;>simp
      have h4:=qfk (f:=chF i) (show k-(n-i)≤k-(n-i)+T by omega)
      have h5:sumN (k-(n-i)+(T+1)) (chF i)-sumN (k-(n-i)) (chF i)=(sumN (k-(n-i)+T) (chF i)-sumN (k-(n-i)) (chF i))+chF i (k-(n-i)+T):=by
        have:sumN (k-(n-i)+(T+1)) (chF i)=sumN (k-(n-i)+T) (chF i)+chF i (k-(n-i)+T):=rfl
        omega
      rw [h5,Nat.mul_add]
      simp only [sm]
      omega
  refine Nat.le_trans (h T hT) (Nat.le_trans (Nat.mul_le_mul_left _ ?_) (two_le hq hn hk hi))
  rw [←ch_sum (i:=i) (by omega)]
  have:=qfk (f:=chF i) (show k-(n-i)+T≤i+1 by omega)
  omega
end
theorem xress_nilT {H:AH} {s:St}:qf8 H s []=some (.tuple [].toArray):=by simp [qf8]
theorem xp_fnT {g:FuncId} {nf nc:Nat} {vs:List Value} (h:vs.length=nf+nc):qbc (.fn g nf nc) vs=some (.func (.func g) (vs.take nf).toArray (vs.drop nf).toArray):=by
  simp [qbc,h]
theorem terms_c {q n k i:Nat} {H:AH} :
    FN Tryz.prog 194 [nv q,nv n,nv k,nv i] H (fun v H'=>H'=H++[.cells [nv q] 3 none false,.cells [nv n] 3 none false,.cells [nv k] 3 none false,.cells [nv i] 3 none false]∧v=.func (.func 212) #[] #[.pointer (some ⟨H.length+2,0,none⟩),.pointer (some ⟨H.length+1,0,none⟩),.pointer (some ⟨H.length+3,0,none⟩),.pointer (some ⟨H.length,0,none⟩)]):=by
  refine FN.of_compZ qbs xf194_ok (Nat.le_of_ble_eq_true rfl) ?_
  simp (disch:=(first|omega|(simp only [List.length_map];omega)|(simp only [qbf]<;>omega)|(simp only [qbd];done)|rfl)) only [↓qbk,zC,zD,zF,zG,zH,Nat.reduceEqDiff,Nat.reduceLT,Nat.reduceLeDiff,↓reduceIte,xf194,xp_fnT]
  simp
end Go.Sim

namespace Go.Sim
open Go Go.Proofs Kr
theorem yields_c {q n k i l bq bn bk bi:Nat} {Hb0:AH} (Ib:Nat→AH→Prop) (hq:2≤q∧q≤16) (hn:n≤24) (hk:k≤n) (hi:i≤n) (hf:q ^ n≤2 ^ 62)
    (h0:Ib 0 Hb0) (hb:∀ t Hb,Ib t Hb→Hb[bk]? = some (.cells [nv k] 3 none false)∧Hb[bn]? = some (.cells [nv n] 3 none false)∧Hb[bi]? = some (.cells [nv i] 3 none false)∧Hb[bq]? = some (.cells [nv q] 3 none false))
    (hy:∀ t Hb J,t<min k i+1-(k-(n-i))→Ib t Hb→YN Tryz.prog l [zv (trm q n k i (k-(n-i)+t))] (Hb++J) (fun v H'=>v=.bool true∧∃ Hb' J',H'=Hb'++J++J'∧Ib (t+1) Hb')) :
    FN Tryz.prog 212 [.func (.yield l) #[] #[],.pointer (some ⟨bk,0,none⟩),.pointer (some ⟨bn,0,none⟩),.pointer (some ⟨bi,0,none⟩),.pointer (some ⟨bq,0,none⟩)] Hb0 (fun _ H'=>∃ Hb J,H'=Hb++J∧Ib (min k i+1-(k-(n-i))) Hb):=by
  refine FN.of_compZ qbs xf212_ok (Nat.le_of_ble_eq_true rfl) ?_
  obtain⟨b1,b2,b3,b4⟩:=hb 0 _ h0
  have s1:xbin .sub 0 (nv k) (nv (n-i))=some (zv ((k:Int)-((n-i:Nat):Int))):=by
    rw [qhw,qg5 (by omega) (by omega)]
  have m1:qbc .max2 [nv 0,zv ((k:Int)-((n-i:Nat):Int))]=some (nv (k-(n-i))):=by
    rw [qn5]
    congr 2
    split<;>omega
  simp (disch:=(first|omega|(simp only [List.length_map];omega)|(simp only [qbf]<;>omega)|(simp only [qbd];done)|rfl)) only [↓qbk,zC,zD,zF,zG,zH,Nat.reduceEqDiff,Nat.reduceLT,Nat.reduceLeDiff,↓reduceIte,xf212,b1,b2,b3,b4,hi,s1,m1]
  have e2:qbc .min2 [nv k,nv i]=some (nv (min k i)):=by
    rw [qn4]
    congr 2
    split<;>omega
  refine LZ.nat (min k i+1-(k-(n-i))) (fun t s H'=>s.env 0=.func (.yield l) #[] #[]∧s.env 1=.pointer (some ⟨bk,0,none⟩)∧s.env 2=.pointer (some ⟨bn,0,none⟩)∧s.env 3=.pointer (some ⟨bi,0,none⟩)∧s.env 4=.pointer (some ⟨bq,0,none⟩)∧s.env 6=nv (k-(n-i)+t)∧s.ds=[] ∧
     ∃ Hb J,H'=Hb++J∧Ib t Hb) ?_ ?_ ?_
  · simp (disch:=(first|omega|(simp only [List.length_map];omega)|(simp only [qbf]<;>omega)|(simp only [qbd];done)|rfl)) only [↓qbk,zC,zD,zF,zG,zH,Nat.reduceEqDiff,Nat.reduceLT,Nat.reduceLeDiff,↓reduceIte]
    exact⟨Hb0,[],by simp,h0⟩
  · rintro t s H1 ht ⟨e0,e1',e2',e3,e4,e6,eds,Hb,J,rfl,hI⟩
    obtain⟨c1,c2,c3,c4⟩:=hb t _ hI
    have d1:=qcv (L:=J) c1
    have d2:=qcv (L:=J) c2
    have d3:=qcv (L:=J) c3
    have d4:=qcv (L:=J) c4
    have hYt:=hy t Hb J ht hI
    have hj1:k-(n-i)≤k-(n-i)+t:=by omega
    have hj2:k-(n-i)+t≤min k i:=by omega
    obtain⟨t1,t2,t3⟩:=trN_le hq hn hk hi hj1 hj2
    have t4:=chN_le hq hn hk hi (j:=k-(n-i)+t) (by omega)
    have t5:=two_le hq hn hk hi
    have t6:q ^ (n-i)≤q ^ n:=Nat.pow_le_pow_right (by omega) (by omega)
    rw [trm_trN] at hYt
    unfold trN at t1 hYt
    generalize hJ:k-(n-i)+t=j at *
    have hjk:j≤k:=by omega
    have hji:j≤i:=by omega
    have hqq:1≤q:=by omega
    simp (disch:=(first|omega|(simp only [List.length_map];omega)|(simp only [qbf]<;>omega)|(simp only [qbd];done)|rfl)) only [↓qbk,zC,zD,zF,zG,zH,Nat.reduceEqDiff,Nat.reduceLT,Nat.reduceLeDiff,↓reduceIte,e0,e1',e2',e3,e4,e6,eds,d1,d2,d3,d4,e2,hj2,hjk,hji,hi,hqq]
    refine FZ.use (power_c (by omega) (by omega) (by omega)) ?_
    simp (disch:=(first|omega|(simp only [List.length_map];omega)|(simp only [qbf]<;>omega)|(simp only [qbd];done)|rfl)) only [↓qbk,zC,zD,zF,zG,zH,Nat.reduceEqDiff,Nat.reduceLT,Nat.reduceLeDiff,↓reduceIte,e0,e1',e2',e3,e4,e6,eds,d1,d2,d3,d4]
    refine FZ.use (choose_c (by omega) hji) ?_
    have w1:(q-1) ^ (k-j)*chF i j<9223372036854775808:=by omega
    simp (disch:=(first|omega|(simp only [List.length_map];omega)|(simp only [qbf]<;>omega)|(simp only [qbd];done)|rfl)) only [↓qbk,zC,zD,zF,zG,zH,Nat.reduceEqDiff,Nat.reduceLT,Nat.reduceLeDiff,↓reduceIte,e0,e1',e2',e3,e4,e6,eds,d1,d2,d3,d4,w1]
    refine FZ.use (choose_c (by omega) (by omega)) ?_
    have w2:(q-1) ^ (k-j)*chF i j*chF (n-i) (k-j)<9223372036854775808:=by omega
    generalize hT:(q-1) ^ (k-j)*chF i j*chF (n-i) (k-j)=T at *
    have hTb:T<4611686018427387905:=by omega
    by_cases hodd:j % 2=1
    · rw [if_pos hodd] at hYt
      have g1:eun .neg (nv T)=some (zv (-1*(T:Int))):=by
        rw [qrv,wrapI (by omega) (by omega)]
        congr 2;omega
      simp (disch:=(first|omega|(simp only [List.length_map];omega)|(simp only [qbf]<;>omega)|(simp only [qbd];done)|rfl)) only [↓qbk,zC,zD,zF,zG,zH,Nat.reduceEqDiff,Nat.reduceLT,Nat.reduceLeDiff,↓reduceIte,e0,e1',e2',e3,e4,e6,eds,d1,d2,d3,d4,w2,hT,hodd,g1]
      refine YN.mono hYt ?_
      rintro _ _ ⟨rfl,Hb',J',rfl,hI'⟩
      simp (disch:=(first|omega|(simp only [List.length_map];omega)|(simp only [qbf]<;>omega)|(simp only [qbd];done)|rfl)) only [↓qbk,zC,zD,zF,zG,zH,Nat.reduceEqDiff,Nat.reduceLT,Nat.reduceLeDiff,↓reduceIte,e0,e1',e2',e3,e4,e6,eds]
      exact⟨by rw [←hJ,Nat.add_assoc],Hb',J++J',rfl,hI'⟩
    · rw [if_neg hodd,Int.one_mul] at hYt
      have hodd':j % 2=0:=by omega
      simp (disch:=(first|omega|(simp only [List.length_map];omega)|(simp only [qbf]<;>omega)|(simp only [qbd];done)|rfl)) only [↓qbk,zC,zD,zF,zG,zH,Nat.reduceEqDiff,Nat.reduceLT,Nat.reduceLeDiff,↓reduceIte,e0,e1',e2',e3,e4,e6,eds,d1,d2,d3,d4,w2,hT,hodd']
      refine YN.mono hYt ?_
      rintro _ _ ⟨rfl,Hb',J',rfl,hI'⟩
      simp (disch:=(first|omega|(simp only [List.length_map];omega)|(simp only [qbf]<;>omega)|(simp only [qbd];done)|rfl)) only [↓qbk,zC,zD,zF,zG,zH,Nat.reduceEqDiff,Nat.reduceLT,Nat.reduceLeDiff,↓reduceIte,e0,e1',e2',e3,e4,e6,eds]
      exact⟨by rw [←hJ,Nat.add_assoc],Hb',J++J',rfl,hI'⟩
  · rintro s H1 ⟨e0,e1',e2',e3,e4,e6,eds,Hb,J,rfl,hI⟩
    obtain⟨c1,c2,c3,c4⟩:=hb _ _ hI
    have d1:=qcv (L:=J) c1
    have d2:=qcv (L:=J) c2
    have d3:=qcv (L:=J) c3
    have hneg:¬k-(n-i)+(min k i+1-(k-(n-i)))≤min k i:=by omega
    simp (disch:=(first|omega|(simp only [List.length_map];omega)|(simp only [qbf]<;>omega)|(simp only [qbd];done)|rfl)) only [↓qbk,zC,zD,zF,zG,zH,Nat.reduceEqDiff,Nat.reduceLT,Nat.reduceLeDiff,↓reduceIte,e0,e1',e2',e3,e4,e6,eds,d1,d2,d3,e2,hneg,xf212,xress_nilT]
    exact⟨Hb,J,rfl,hI⟩
def Iv (q n k i:Nat) (H:AH) (L:ALoop) (t:Nat) (Hb:AH):Prop:=
  Hb=H++[.cells [zv (sm t fun t=>trm q n k i (k-(n-i)+t))] 3 none false,.cells [nv q] 3 none false,.cells [nv n] 3 none false,.cells [nv k] 3 none false,.cells [nv i] 3 none false,.defs (some []),.loop L]
theorem value_c {q n k i:Nat} {H:AH} (hq:2≤q∧q≤16) (hn:n≤24) (hk:k≤n) (hi:i≤n) (hf:q ^ n≤2 ^ 62) :
    FN Tryz.prog 159 [nv q,nv n,nv k,nv i] H (fun v H'=>v=zv (Kc q n k i)∧H'=H):=by
  refine FN.gc0 (FN.of_compZ qbs xf159_ok (Nat.le_of_ble_eq_true rfl) ?_)
  simp (disch:=(first|omega|(simp only [List.length_map];omega)|(simp only [qbf]<;>omega)|(simp only [qbd];done)|rfl)) only [↓qbk,zC,zD,zF,zG,zH,Nat.reduceEqDiff,Nat.reduceLT,Nat.reduceLeDiff,↓reduceIte,xf159]
  refine FZ.mono terms_c ?_
  rintro _ _ ⟨rfl,rfl⟩
  simp (disch:=(first|omega|(simp only [List.length_map];omega)|(simp only [qbf]<;>omega)|(simp only [qbd];done)|rfl)) only [↓qbk,zC,zD,zF,zG,zH,Nat.reduceEqDiff,Nat.reduceLT,Nat.reduceLeDiff,↓reduceIte]
  refine X_gen (fun s H'=>s.env 9=.pointer (some ⟨H.length,0,none⟩)∧s.env 15=.func (.func 212) #[] #[.pointer (some ⟨H.length+3,0,none⟩),.pointer (some ⟨H.length+2,0,none⟩),.pointer (some ⟨H.length+4,0,none⟩),.pointer (some ⟨H.length+1,0,none⟩)]∧s.ds=[] ∧
     H'=H++[.cells [nv 0] 3 none false,.cells [nv q] 3 none false,.cells [nv n] 3 none false,.cells [nv k] 3 none false,.cells [nv i] 3 none false]) ?_ ?_
  · simp (disch:=(first|omega|(simp only [List.length_map];omega)|(simp only [qbf]<;>omega)|(simp only [qbd];done)|rfl)) only [↓qbk,zC,zD,zF,zG,zH,Nat.reduceEqDiff,Nat.reduceLT,Nat.reduceLeDiff,↓reduceIte]
  rintro s H1 ⟨e9,e15,eds,rfl⟩
  refine qkf (f:=.tmp 15) (g:=212) rfl e15 ?_
  intro assign body hA hB
  simp only [List.length_append,List.length_cons,List.length_nil,List.append_assoc,List.cons_append,List.nil_append,Nat.zero_add,Nat.reduceAdd,Nat.add_assoc]
  refine FN.mono (yields_c (Iv q n k i H (qbx 21 s #[16] assign body (H.length+5))) hq hn hk hi hf ?_ ?_ ?_) ?_
  · simp only [Iv,sm];rfl
  · rintro t Hb rfl
    exact⟨get_new.trans rfl,get_new.trans rfl,get_new.trans rfl,get_new.trans rfl⟩
  · rintro t Hb J ht rfl
    simp only [List.append_assoc,List.cons_append]
    have hs1:=sum_le hq hn hk hi (T:=t) (by omega)
    have hs2:=sum_le hq hn hk hi (T:=t+1) (by omega)
    simp only [Iv]
    simp only [sm] at hs2 ⊢
    generalize sm t (fun t=>trm q n k i (k-(n-i)+t))=S at *
    generalize trm q n k i (k-(n-i)+t)=T at *
    have ad:xbin .add 0 (zv S) (zv T)=some (zv (S+T)):=by
      simp only [xbin,if_true]
      rw [wrapI (by omega) (by omega)]
    refine YN.introZ qbs (r:=qbx 21 s #[16] assign body (H.length+5)) (get_new.trans rfl) hA hB rfl (by simp [qbx]) ?_
    simp (disch:=(first|omega|(simp only [List.length_map];omega)|(simp only [qbf]<;>omega)|(simp only [qbd];done)|rfl)) only [↓qbk,zC,zD,zF,zG,zH,Nat.reduceEqDiff,Nat.reduceLT,Nat.reduceLeDiff,↓reduceIte,qcm,qcr,E_ynA]
    refine⟨qbx 21 s #[16] assign body (H.length+5),rfl,rfl,?_⟩
    simp (disch:=(first|omega|(simp only [List.length_map];omega)|(simp only [qbf]<;>omega)|(simp only [qbd];done)|rfl)) only [↓qbk,zC,zD,zF,zG,zH,Nat.reduceEqDiff,Nat.reduceLT,Nat.reduceLeDiff,↓reduceIte,qcm,qcr,e9,qbx,ad,E_ynB]
    refine⟨_,rfl,rfl,_,[],?_,rfl⟩
    simp only [qbx,List.append_nil,List.append_assoc,List.cons_append,List.nil_append]
    rfl
  · rintro v H2 ⟨Hb,J,rfl,rfl⟩
    simp only [List.append_assoc,List.cons_append,List.nil_append]
    refine⟨qbx 21 s #[16] assign body (H.length+5),.normal,get_new.trans rfl,by simp [qbx],rfl,?_⟩
    refine EZ_of ?_
    simp (disch:=(first|omega|(simp only [List.length_map];omega)|(simp only [qbf]<;>omega)|(simp only [qbd];done)|rfl)) only [↓qbk,zC,zD,zF,zG,zH,Nat.reduceEqDiff,Nat.reduceLT,Nat.reduceLeDiff,↓reduceIte,e9,xf159,qbx,eds]
    rw [qpc (get_new.trans rfl)]
    simp (disch:=(first|omega|(simp only [List.length_map];omega)|(simp only [qbf]<;>omega)|(simp only [qbd];done)|rfl)) only [↓qbk,zC,zD,zF,zG,zH,Nat.reduceEqDiff,Nat.reduceLT,Nat.reduceLeDiff,↓reduceIte,e9,xf159,qbx,eds]
    simp [Kc,ground,scal]
end Go.Sim

namespace Go.Sim
open Go Go.Proofs Kr
theorem Kc_le {q n k i:Nat} (hq:2≤q∧q≤16) (hn:n≤24) (hk:k≤n) (hi:i≤n):(Kc q n k i).natAbs≤q ^ n:=sum_le hq hn hk hi (Nat.le_refl _)
theorem Wsum_le {q n k:Nat} {W:Nat→Nat} (hq:2≤q∧q≤16) (hn:n≤24) (hk:k≤n):∀ t,t≤n+1→(sm t fun i=>(W i:Int)*Kc q n k i).natAbs≤sumN t W*q ^ n
  | 0,_=>by simp [sm]
  | t+1,ht=>by
    have ih:=Wsum_le (W:=W) (k:=k) hq hn hk t (by omega)
    have h1:=Kc_le (i:=t) hq hn hk (by omega)
    have h2:((W t:Int)*Kc q n k t).natAbs≤W t*q ^ n:=by rw [Int.natAbs_mul,Int.natAbs_natCast];exact Nat.mul_le_mul_left _ h1
    show (sm t _+_).natAbs≤(sumN t W+W t)*q ^ n
    rw [Nat.add_mul]
    exact Nat.le_trans (Int.natAbs_add_le _ _) (Nat.add_le_add ih h2)
theorem cturn_c {q n m:Nat} {W B:Nat→Nat} {w:Value} {H:AH} (hq:2≤q∧q≤16) (hn:n≤24) (hf:q ^ n≤2 ^ 30) (hw:Row H w (tab (n+1) fun j=>nv (W j))) (hm:sumN (n+1) W=m) (hm0:0<m) (hmq:m≤q ^ n)
    (hB:∀ k,k≤n→sm (n+1) (fun i=>(W i:Int)*Kc q n k i)=((m*B k:Nat):Int)) (hBb:∀ k,k≤n→B k≤q ^ n) :
    FN Tryz.prog 105 [nv q,nv n,w] H (fun r H'=>Pre H H'∧∃ v,r=.tuple [v,nv 0].toArray∧Row H' v (tab (n+1) fun j=>nv (B j))∧Lw.Lo H.length v):=by
  refine g105_of ?_
  unfold g105
  obtain⟨wl0,wi0,wd0,_⟩:=hw.allV
  rw [qk3] at wl0 wi0 wd0
  have wdt:∀ k,k<n+1→(tab (n+1) fun j=>nv (W j)).getD k undef=nv (W k):=fun k hk=>by
    simp [tab,List.getD_eq_getElem?_getD,hk]
  have hq1:1≤q:=by omega
  refine FZ.use (qrn (q:=q) (n:=n)) ?_
  rw [decide_eq_true (show 2≤(q:Int)∧(q:Int)≤16∧0≤(n:Int)∧(n:Int)≤24 by omega)]
  simp (disch:=(first|omega|(simp only [qbf]<;>omega)|(simp only [qbd];done)|rfl)) only [zA,zB,zC,zD,zF,zG,zH,Nat.reduceEqDiff,Nat.reduceLT,Nat.reduceLeDiff,↓reduceIte,Bool.not_true]
  refine FZ.use (fits_c hq hn (L:=30) (by decide)) ?_
  rw [decide_eq_true hf]
  simp (disch:=(first|omega|(simp only [qbf]<;>omega)|(simp only [qbd];done)|rfl)) only [zA,zB,zC,zD,zF,zG,zH,Nat.reduceEqDiff,Nat.reduceLT,Nat.reduceLeDiff,↓reduceIte,wl0,Bool.not_true]
  have hf':q ^ n≤1073741824:=hf
  refine FZ.use (power_c (by omega) hn (by omega)) ?_
  simp (disch:=(first|omega|(simp only [qbf]<;>omega)|(simp only [qbd];done)|rfl)) only [zA,zB,zC,zD,zF,zG,zH,Nat.reduceEqDiff,Nat.reduceLT,Nat.reduceLeDiff,↓reduceIte,wl0]
  refine loopV2.nat (n+1) (fun t a i H'=>a=nv (sumN t W)∧i=nv t∧H'=H) ⟨rfl,rfl,rfl⟩ ?_ ?_
  · rintro t a i _ ht ⟨rfl,rfl,rfl⟩ J hJ
    have h1:sumN t W+W t=sumN (t+1) W:=rfl
    have h2:sumN (t+1) W≤sumN (n+1) W:=qfk ht
    have h3:sumN t W≤q ^ n:=by omega
    have h4:¬q ^ n-sumN t W<W t:=by omega
    have h5:¬W t<0:=by omega
    have wd:=wd0 t ht
    rw [wdt t ht] at wd
    simp (disch:=(first|omega|(simp only [qbf]<;>omega)|(simp only [qbd];done)|rfl)) only [zA,zB,zC,zD,zF,zG,zH,Nat.reduceEqDiff,Nat.reduceLT,Nat.reduceLeDiff,↓reduceIte,wi0,wd,ht,h3,h4,h5]
    exact hJ _ _ _ ⟨rfl,rfl,rfl⟩
  · rintro a i H ⟨rfl,rfl,rfl⟩ J
    rw [hm]
    have hmz:¬m=0:=by omega
    have hmk:8*(n+1)≤281474976710656:=by omega
    simp (disch:=(first|omega|(simp only [qbf]<;>omega)|(simp only [qbd];done)|rfl)) only [zA,zB,zC,zD,zF,zG,zH,Nat.reduceEqDiff,Nat.reduceLT,Nat.reduceLeDiff,↓reduceIte,wl0,hmz,hmk,qdw]
    rw [qps]
    refine loopV1.nat (n+1) (fun k i H'=>i=nv k∧H'=H++[.cells (tab (n+1) fun j=>if j<k then nv (B j) else nv 0) 3 none false]) ⟨rfl,?_⟩ ?_ ?_
    · congr 3
    · rintro k i _ hk ⟨rfl,rfl⟩ J hJ
      have hkn:k≤n:=by omega
      simp (disch:=(first|omega|(simp only [qbf]<;>omega)|(simp only [qbd];done)|rfl)) only [zA,zB,zC,zD,zF,zG,zH,Nat.reduceEqDiff,Nat.reduceLT,Nat.reduceLeDiff,↓reduceIte,hk,wl0]
      refine loopV1.nat (n+1) (fun t i H'=>i=nv t∧H'=H++[.cells (tab (n+1) fun j=>if j<k then nv (B j) else if j=k then zv (sm t fun i=>(W i:Int)*Kc q n k i) else nv 0) 3 none false]) ⟨rfl,?_⟩ ?_ ?_
      · congr 3
        refine qhz fun j hj=>?_
        by_cases h1:j<k
        · rw [if_pos h1,if_pos h1]
        · rw [if_neg h1,if_neg h1]
          by_cases h2:j=k
          · rw [if_pos h2];rfl
          · rw [if_neg h2]
      · rintro t i _ ht ⟨rfl,rfl⟩ J2 hJ2
        have wd:=(hw.pre (Pre.new H [.cells (tab (n+1) fun j=>if j<k then nv (B j) else if j=k then zv (sm t fun i=>(W i:Int)*Kc q n k i) else nv 0) 3 none false])).allV.2.2.1 t (by rw [qk3];exact ht)
        rw [wdt t ht] at wd
        have ld:qdm none (some (.cells (tab (n+1) fun j=>if j<k then nv (B j) else if j=k then zv (sm t fun i=>(W i:Int)*Kc q n k i) else nv 0) 3 none false)) k=some (zv (sm t fun i=>(W i:Int)*Kc q n k i)):=by
          rw [tab_ld2 hk,if_neg (Nat.lt_irrefl _),if_pos rfl]
        simp (disch:=(first|omega|(simp only [qbf]<;>omega)|(simp only [qbd];done)|rfl)) only [zA,zB,zC,zD,zF,zG,zH,Nat.reduceEqDiff,Nat.reduceLT,Nat.reduceLeDiff,↓reduceIte,wi0,wd,ht,hk,ld]
        refine FZ.use (value_c hq hn hkn (by omega) (by omega)) ?_
        have b1:=Wsum_le (W:=W) (k:=k) hq hn hkn t (by omega)
        have b2:=Wsum_le (W:=W) (k:=k) hq hn hkn (t+1) (by omega)
        have b3:sumN (t+1) W*q ^ n≤1073741824*1073741824:=Nat.mul_le_mul (by have:=qfk (f:=W) (show t+1≤n+1 by omega);omega) hf'
        have b4:sumN t W*q ^ n≤sumN (t+1) W*q ^ n:=Nat.mul_le_mul_right _ (qfk (Nat.le_succ t))
        have b5:((W t:Int)*Kc q n k t).natAbs≤1073741824*1073741824:=by
          rw [Int.natAbs_mul,Int.natAbs_natCast]
          exact Nat.mul_le_mul (by have h1:sumN t W+W t=sumN (t+1) W:=rfl;have:=qfk (f:=W) (show t+1≤n+1 by omega);omega) (Nat.le_trans (Kc_le hq hn hkn (by omega)) hf')
        have e1:sm (t+1) (fun i=>(W i:Int)*Kc q n k i)=sm t (fun i=>(W i:Int)*Kc q n k i)+(W t:Int)*Kc q n k t:=rfl
        have m1:xbin .mul 0 (nv (W t)) (zv (Kc q n k t))=some (zv ((W t:Int)*Kc q n k t)):=by
          simp only [xbin,if_true]
          rw [wrapI (by omega) (by omega)]
        have a1:xbin .add 0 (zv (sm t fun i=>(W i:Int)*Kc q n k i)) (zv ((W t:Int)*Kc q n k t))=some (zv (sm (t+1) fun i=>(W i:Int)*Kc q n k i)):=by
          simp only [xbin,if_true]
          rw [e1] at b2 ⊢
          rw [wrapI (by omega) (by omega)]
        have st:=tab_st (H:=H++[.cells (tab (n+1) fun j=>if j<k then nv (B j) else if j=k then zv (sm t fun i=>(W i:Int)*Kc q n k i) else nv 0) 3 none false]) (bl:=H.length) (n:=n+1) (k:=k) (f:=fun j=>if j<k then nv (B j) else if j=k then zv (sm t fun i=>(W i:Int)*Kc q n k i) else nv 0) (et:=3) (op:=none) (v:=zv (sm (t+1) fun i=>(W i:Int)*Kc q n k i)) (g:=fun j=>if j<k then nv (B j) else if j=k then zv (sm (t+1) fun i=>(W i:Int)*Kc q n k i) else nv 0) (by simp) hk rfl rfl (by
            show (if k<k then _ else if k=k then _ else _)=_
            rw [if_neg (Nat.lt_irrefl _),if_pos rfl]) (fun j hj hne=>by
            show (if j<k then _ else if j=k then _ else _)=if j<k then _ else if j=k then _ else _
            by_cases h1:j<k
            · rw [if_pos h1,if_pos h1]
            · rw [if_neg h1,if_neg h1,if_neg hne,if_neg hne])
        rw [qdn] at st
        simp (disch:=(first|omega|(simp only [qbf]<;>omega)|(simp only [qbd];done)|rfl)) only [zA,zB,zC,zD,zF,zG,zH,Nat.reduceEqDiff,Nat.reduceLT,Nat.reduceLeDiff,↓reduceIte,ld,m1,a1,hk,st]
        exact hJ2 _ _ ⟨rfl,rfl⟩
      · rintro i _ ⟨rfl,rfl⟩ J2
        have hBk:=hB k hkn
        have hBb':=hBb k hkn
        have hmb:m*B k≤1073741824*1073741824:=Nat.mul_le_mul (by omega) (by omega)
        have ld:qdm none (some (.cells (tab (n+1) fun j=>if j<k then nv (B j) else if j=k then zv (sm (n+1) fun i=>(W i:Int)*Kc q n k i) else nv 0) 3 none false)) k=some (nv (m*B k)):=by
          rw [tab_ld2 hk,if_neg (Nat.lt_irrefl _),if_pos rfl,hBk]
        have h5:¬m*B k<0:=by omega
        have h6:m*B k % m=0:=Nat.mul_mod_right _ _
        have h7:m*B k / m=B k:=Nat.mul_div_cancel_left _ hm0
        have st:=tab_st (H:=H++[.cells (tab (n+1) fun j=>if j<k then nv (B j) else if j=k then zv (sm (n+1) fun i=>(W i:Int)*Kc q n k i) else nv 0) 3 none false]) (bl:=H.length) (n:=n+1) (k:=k) (f:=fun j=>if j<k then nv (B j) else if j=k then zv (sm (n+1) fun i=>(W i:Int)*Kc q n k i) else nv 0) (et:=3) (op:=none) (v:=nv (B k)) (g:=fun j=>if j<k+1 then nv (B j) else nv 0) (by simp) hk rfl rfl (by
            show (if k<k+1 then _ else _)=_
            rw [if_pos (Nat.lt_succ_self _)]) (fun j hj hne=>by
            show (if j<k+1 then _ else _)=if j<k then _ else if j=k then _ else _
            by_cases h1:j<k
            · rw [if_pos h1,if_pos (by omega)]
            · rw [if_neg h1,if_neg (by omega),if_neg hne])
        rw [qdn] at st
        simp (disch:=(first|omega|(simp only [qbf]<;>omega)|(simp only [qbd];done)|rfl)) only [zA,zB,zC,zD,zF,zG,zH,Nat.reduceEqDiff,Nat.reduceLT,Nat.reduceLeDiff,↓reduceIte,wl0,ld,hk,h5,h6,h7,hmz,st]
        exact hJ _ _ ⟨rfl,rfl⟩
    · rintro i _ ⟨rfl,rfl⟩ J2
      simp (disch:=(first|omega|(simp only [qbf]<;>omega)|(simp only [qbd];done)|rfl)) only [zA,zB,zC,zD,zF,zG,zH,Nat.reduceEqDiff,Nat.reduceLT,Nat.reduceLeDiff,↓reduceIte]
      refine⟨Pre.new _ _,_,rfl,?_,fun a l c h=>by cases h;exact Nat.le_refl _⟩
      have e1:(tab (n+1) fun j=>if j<n+1 then nv (B j) else nv 0)=tab (n+1) fun j=>nv (B j):=qhz fun j hj=>if_pos hj
      rw [←e1]
      exact Row.of (b:=H.length) (e:=3) (op:=none) (r:=false) (by simp) (by rw [qk3]) (Nat.le_refl _)
end Go.Sim

namespace Go.Sim
open Go Go.Proofs Kr
theorem kc_tab:(allB 11 fun n=>allB 7 fun q=>allB (n+1) fun i=>decide (kRow (q+2) n i=(List.range (n+1)).map fun k=>Kc (q+2) n k i))=true:=by decide +kernel
theorem Kc_Kz {q n k i:Nat} (hq:2≤q∧q≤8) (hn:n≤10) (hk:k≤n) (hi:i≤n):Kc q n k i=Kz q n k i:=by
  have h1:=qc0 (qc0 (qc0 kc_tab n (by omega)) (q-2) (by omega)) i (by omega)
  rw [show q-2+2=q by omega] at h1
  rw [Kz_row,of_decide_eq_true h1]
  simp [List.getD_eq_getElem?_getD,Nat.lt_succ_of_le hk]
theorem turnI_c {q n m:Nat} {W B:Nat→Nat} {w:Value} {H:AH} (hq:2≤q∧q≤16) (hn:n≤24) (hf:q ^ n≤2 ^ 30) (hw:Row H w (tab (n+1) fun j=>nv (W j))) (hm:sumN (n+1) W=m) (hm0:0<m) (hmq:m≤q ^ n)
    (hB:∀ k,k≤n→sm (n+1) (fun i=>(W i:Int)*Kc q n k i)=((m*B k:Nat):Int)) (hBb:∀ k,k≤n→B k≤q ^ n) :
    FN Tryz.prog 56 [nv q,nv n,w] H (fun r H'=>Pre H H'∧∃ v,r=.agg [v,nv 0].toArray∧one v=true∧(∀ H'',Pre H' H''→Row H'' v (tab (n+1) fun j=>nv (B j)))∧Lw.Lo H.length v):=by
  refine g56_of ?_
  unfold g56
  have hX:=Pre.new H [.cells [.slice none 0 0,nv 0] 66 none false]
  simp (disch:=(first|omega|(simp only [qbf]<;>omega)|(simp only [qbd];done)|rfl)) only [zA,zB,zC,zD,zF,zG,zH,Nat.reduceEqDiff,Nat.reduceLT,Nat.reduceLeDiff,↓reduceIte]
  refine FZ.mono (cturn_c hq hn hf (hw.pre hX) hm hm0 hmq hB hBb) ?_
  rintro _ H2 ⟨hp2,v,rfl,hv,hlo⟩
  have g2:H2[H.length]? = some (.cells [.slice none 0 0,nv 0] 66 none false):=hp2.get (by simp)
  have hv1:=hv.one
  have hvc:=hv.cells
  have fi:qbv [.slice none 0 0,nv 0] [(0,1),(1,1)] [v,nv 0]=some [v,nv 0]:=hv.fill _ _ _ _ (by simp)
  simp (disch:=(first|omega|(simp only [qbf]<;>omega)|(simp only [qbd];done)|rfl)) only [zA,zB,zC,zD,zF,zG,zH,Nat.reduceEqDiff,Nat.reduceLT,Nat.reduceLeDiff,↓reduceIte,g2,fi,hv1,hvc]
  have st:stB 2 H2 (some (.cells [.slice none 0 0,nv 0] 66 none false)) H.length 0 (.agg #[v,nv 0])=some (undef,H2.set H.length (.cells [v,nv 0] 66 none false)):=qgt (n:=2) (c:=[.slice none 0 0,nv 0]) (c':=[v,nv 0]) rfl rfl (by simp [hv1];rfl)
  have g3:(H2.set H.length (.cells [v,nv 0] 66 none false))[H.length]? = some (.cells [v,nv 0] 66 none false):=List.getElem?_set_self (qbr g2)
  simp (disch:=(first|omega|(simp only [qbf]<;>omega)|(simp only [qbd];done)|rfl)) only [zA,zB,zC,zD,zF,zG,zH,Nat.reduceEqDiff,Nat.reduceLT,Nat.reduceLeDiff,↓reduceIte,st,g3]
  refine⟨(hX.trans hp2).set (Nat.le_refl _) _,v,rfl,hv1,fun H'' hp=>(Lw.row_setLow hv hlo (by simp)).pre hp,fun a l c h=>by have:=hlo a l c h;simp at this;omega⟩
end Go.Sim

set_option maxRecDepth 100000
namespace Go.Sim
open Go Go.Proofs Kr
noncomputable def oVal:qf7:=fun g args H=>bif Nat.beq g 159 then match args with
  | [.int .i64 (.ofNat q),.int .i64 (.ofNat n),.int .i64 (.ofNat k),.int .i64 (.ofNat i)]=>bif Nat.ble 2 q && Nat.ble q 16 && Nat.ble n 24 && Nat.ble k n && Nat.ble i n && Nat.ble (q ^ n) (2 ^ 62) then match Kc q n k i with
    | .ofNat m=>qdv m fun m=>some (.int .i64 (.ofNat m),H)
    | .negSucc m=>qdv m fun m=>some (.int .i64 (.negSucc m),H)
    else none
  | _=>none else none
theorem oVal_ok:CallOk Tryz.prog oVal:=by
  intro g args H v H' h
  unfold oVal at h
  cases hg:Nat.beq g 159 with
  | false=>rw [hg] at h;cases h
  | true =>
    rw [hg] at h
    simp only [cond_true] at h
    have hg:=Nat.eq_of_beq_eq_true hg
    subst hg
    split at h
    · rename_i q n k i
      cases hk:(Nat.ble 2 q && Nat.ble q 16 && Nat.ble n 24 && Nat.ble k n && Nat.ble i n && Nat.ble (q ^ n) (2 ^ 62)) with
      | false=>rw [hk] at h;cases h
      | true =>
        rw [hk] at h
        simp only [cond_true,qd2] at h
        simp only [Bool.and_eq_true,Nat.ble_eq] at hk
        obtain⟨⟨⟨⟨⟨h1,h2⟩,h3⟩,h4⟩,h5⟩,h6⟩:=hk
        have hv:=value_c (q:=q) (n:=n) (k:=k) (i:=i) (H:=H) ⟨h1,h2⟩ h3 h4 h5 h6
        have e:v=zv (Kc q n k i)∧H'=H:=by
          split at h
          · rename_i m hm
            cases h
            exact⟨by rw [hm],rfl⟩
          · rename_i m hm
            cases h
            exact⟨by rw [hm],rfl⟩
        obtain⟨rfl,rfl⟩:=e
        exact⟨hv,Keep.refl (Nat.le_refl _)⟩
    · cases h
noncomputable def xfTL (g:FuncId):Option XF:=Tf.xfF Tryz.prog g
theorem xfTL_ok (g:FuncId) (xf:XF) (h:xfTL g=some xf):qb3 Tryz.prog g=some xf:=Tf.xfF_ok g xf h
def wrTL (g:Nat):Bool:=false
theorem exL_run:kChk (callM xfTL oVal wrTL 100 14 0 51 [] []) (.val (.bool true))=true:=by kernel_rfl
theorem exL_known:qmq Tryz.prog 51 [] (.val (.bool true)):=known_ofM qbs xfTL_ok oVal_ok rfl exL_run
def ExTl:Prop:=∀ H:AH,FN Tryz.prog 51 [] H (fun r H'=>r=.bool true∧H'=H)
theorem exTl:ExTl:=fun H=>exL_known H
end Go.Sim

set_option maxRecDepth 100000
namespace Go.Sim
open Go Go.Proofs
local instance coZTlL:Coe AH Value:=⟨fun H=>.pointer (some ⟨H.length,0,none⟩)⟩
def g9 (x0:Value) (H:AH) (R:Value→AH→Prop):Prop:=
 @letH (H++[.cells (qbn x0) 24 none false]) ⟨fun H1 =>
 @cG 51 [] H1 ⟨fun v13 H2 =>
 @qbb (eun .not v13) ⟨fun v15 =>
 @qbq v15 ⟨fun q=>if q=true then R (.bool false) H2 else
 @qbb (qbh (some 4) H2 [H]) ⟨fun v16 =>
 @cG 12 [v16] H2 ⟨fun v17 H3 =>
 @letH (H3++[.cells [nv 0,nv 0,.slice none 0 0] 29 none false]) ⟨fun H4 =>
 @qbt (xact (.st 3) H4 [H3,v17]) ⟨fun _v H5 =>
 @qbb (qbh (some 3) H5 [H3]) ⟨fun v19 =>
 @cG 52 [v19] H5 ⟨fun v20 H6 =>
 @qbb (qbc (.ext 0) [v20]) ⟨fun v21 =>
 @qbb (qbc (.ext 1) [v20]) ⟨fun v22 =>
 @qbb (xbin .neq 0 v22 (nv 0)) ⟨fun v24 =>
 @qbg (asNB v24) (fun J1=>J1 v21 H6) H6 ⟨fun v26 H7 =>
 @qbg (asNB v24) (fun J2=>@qbb (qbc .lenS [v26]) ⟨fun v27 =>
 J2 v27 H7⟩) H7 ⟨fun v27a H8 =>
 @qbg (asNB v24) (fun J3=>@qbb (qbh (some 3) H8 [H3]) ⟨fun v28 =>
 J3 v28 H8⟩) H8 ⟨fun v28a H9 =>
 @qbg (asNB v24) (fun J4=>@cG 53 [v28a] H9 ⟨fun v29 H10 =>
 J4 v29 H10⟩) H9 ⟨fun v29a H11 =>
 @qbg (asNB v24) (fun J5=>@qbb (xbin .neq 0 v27a v29a) ⟨fun v30 =>
 J5 v30 H11⟩) H11 ⟨fun v30a H12 =>
 @qb1 v24 (.bool true) v30a ⟨fun v31 =>
 @qbq v31 ⟨fun q=>if q=true then R (.bool false) H12 else
 @qbb (qbc .lenS [v21]) ⟨fun v33 =>
 @qbb (xbin .gtr 0 v33 (nv 64)) ⟨fun v34 =>
 @qbq v34 ⟨fun q=>if q=true then R v13 H12 else
 @qbb (qbh (some 3) H12 [H3]) ⟨fun v37 =>
 @cG 54 [v37] H12 ⟨fun v38 H13 =>
 @qbb (qbc (.ext 0) [v38]) ⟨fun v39 =>
 @qbb (qbc (.ext 1) [v38]) ⟨fun v40 =>
 @qbb (qbc (.fld 0) [H3]) ⟨fun v41 =>
 @qbb (qbh none H13 [v41]) ⟨fun v42 =>
 @qbb (qbc (.fld 1) [H3]) ⟨fun v43 =>
 @qbb (qbh none H13 [v43]) ⟨fun v44 =>
 @qbb (qbc (.fld 0) [H3]) ⟨fun v47 =>
 @qbb (qbh none H13 [v47]) ⟨fun v48 =>
 @qbb (qbc (.fld 1) [H3]) ⟨fun v49 =>
 @qbb (qbh none H13 [v49]) ⟨fun v50 =>
 @letH (H13++[.cells [.slice none 0 0,nv 0] 63 none false]) ⟨fun H14 =>
 @letH (H14++[.cells [.slice none 0 0,nv 0] 66 none false]) ⟨fun H15 =>
 @cG 55 [v42,v44,v21] H15 ⟨fun v46 H16 =>
 (chkX [9,7] (⟨9,none,[v49],v50⟩ :: (⟨7,none,[v47],v48⟩ :: [])) H16∧@cG 56 [v48,v50,v39] H16 ⟨fun v52 H17 =>
 @qbt (xact (.st 2) H17 [H13,v46]) ⟨fun _v H18 =>
 @qbt (xact (.st 2) H18 [H14,v52]) ⟨fun _v H19 =>
 @qbb (qbc (.fld 0) [H3]) ⟨fun v53 =>
 @qbb (qbh none H19 [v53]) ⟨fun v54 =>
 @qbb (qbc (.fld 1) [H3]) ⟨fun v55 =>
 @qbb (qbh none H19 [v55]) ⟨fun v56 =>
 @qbb (qbc (.fld 0) [H13]) ⟨fun v57 =>
 @qbb (qbh none H19 [v57]) ⟨fun v58 =>
 @cG 57 [v54,v56,v58] H19 ⟨fun v59 H20 =>
 @letH (H20++[.cells [.slice none 0 0,nv 0] 63 none false]) ⟨fun H21 =>
 @qbt (xact (.st 2) H21 [H20,v59]) ⟨fun _v H22 =>
 @qbb (xbin .neq 0 v40 (nv 0)) ⟨fun v61 =>
 @qbg (asNB v61) (fun J6=>@qbb (qbc (.fld 1) [H13]) ⟨fun v63 =>
 J6 v63 H22⟩) H22 ⟨fun v63a H23 =>
 @qbg (asNB v61) (fun J7=>@qbb (qbh none H23 [v63a]) ⟨fun v64 =>
 J7 v64 H23⟩) H23 ⟨fun v64a H24 =>
 @qbg (asNB v61) (fun J8=>@qbb (xbin .neq 0 v64a (nv 0)) ⟨fun v65 =>
 J8 v65 H24⟩) H24 ⟨fun v65a H25 =>
 @qb1 v61 (.bool true) v65a ⟨fun v66 =>
 @qbg (asNB v66) (fun J9=>@qbb (qbc (.fld 1) [H14]) ⟨fun v68 =>
 J9 v68 H25⟩) H25 ⟨fun v68a H26 =>
 @qbg (asNB v66) (fun J10=>@qbb (qbh none H26 [v68a]) ⟨fun v69 =>
 J10 v69 H26⟩) H26 ⟨fun v69a H27 =>
 @qbg (asNB v66) (fun J11=>@qbb (xbin .neq 0 v69a (nv 0)) ⟨fun v70 =>
 J11 v70 H27⟩) H27 ⟨fun v70a H28 =>
 @qb1 v66 (.bool true) v70a ⟨fun v71 =>
 @qbg (asNB v71) (fun J12=>@qbb (qbc (.fld 1) [H20]) ⟨fun v73 =>
 J12 v73 H28⟩) H28 ⟨fun v73a H29 =>
 @qbg (asNB v71) (fun J13=>@qbb (qbh none H29 [v73a]) ⟨fun v74 =>
 J13 v74 H29⟩) H29 ⟨fun v74a H30 =>
 @qbg (asNB v71) (fun J14=>@qbb (xbin .neq 0 v74a (nv 0)) ⟨fun v75 =>
 J14 v75 H30⟩) H30 ⟨fun v75a H31 =>
 @qb1 v71 (.bool true) v75a ⟨fun v76 =>
 @qbg (asNB v76) (fun J15=>J15 v39 H31) H31 ⟨fun v78 H32 =>
 @qbg (asNB v76) (fun J16=>@qbb (qbc .lenS [v78]) ⟨fun v79 =>
 J16 v79 H32⟩) H32 ⟨fun v79a H33 =>
 @qbg (asNB v76) (fun J17=>@qbb (qbc (.fld 0) [H13]) ⟨fun v80 =>
 J17 v80 H33⟩) H33 ⟨fun v80a H34 =>
 @qbg (asNB v76) (fun J18=>@qbb (qbh none H34 [v80a]) ⟨fun v81 =>
 J18 v81 H34⟩) H34 ⟨fun v81a H35 =>
 @qbg (asNB v76) (fun J19=>@qbb (qbc .lenS [v81a]) ⟨fun v82 =>
 J19 v82 H35⟩) H35 ⟨fun v82a H36 =>
 @qbg (asNB v76) (fun J20=>@qbb (xbin .neq 0 v79a v82a) ⟨fun v83 =>
 J20 v83 H36⟩) H36 ⟨fun v83a H37 =>
 @qb1 v76 (.bool true) v83a ⟨fun v84 =>
 @qbg (asNB v84) (fun J21=>@qbb (qbc (.fld 0) [H14]) ⟨fun v86 =>
 J21 v86 H37⟩) H37 ⟨fun v86a H38 =>
 @qbg (asNB v84) (fun J22=>@qbb (qbh none H38 [v86a]) ⟨fun v87 =>
 J22 v87 H38⟩) H38 ⟨fun v87a H39 =>
 @qbg (asNB v84) (fun J23=>@qbb (qbc .lenS [v87a]) ⟨fun v88 =>
 J23 v88 H39⟩) H39 ⟨fun v88a H40 =>
 @qbg (asNB v84) (fun J24=>@qbb (qbc (.fld 0) [H20]) ⟨fun v89 =>
 J24 v89 H40⟩) H40 ⟨fun v89a H41 =>
 @qbg (asNB v84) (fun J25=>@qbb (qbh none H41 [v89a]) ⟨fun v90 =>
 J25 v90 H41⟩) H41 ⟨fun v90a H42 =>
 @qbg (asNB v84) (fun J26=>@qbb (qbc .lenS [v90a]) ⟨fun v91 =>
 J26 v91 H42⟩) H42 ⟨fun v91a H43 =>
 @qbg (asNB v84) (fun J27=>@qbb (xbin .neq 0 v88a v91a) ⟨fun v92 =>
 J27 v92 H43⟩) H43 ⟨fun v92a H44 =>
 @qb1 v84 (.bool true) v92a ⟨fun v93 =>
 @qbq v93 ⟨fun q=>if q=true then R (.bool false) H44 else
 @loopV1 (nv 0) H44 ⟨fun i12 H45 K28 =>
 @qbb (qbc .lenS [v39]) ⟨fun v96 =>
 @qbb (xbin .lss 0 i12 v96) ⟨fun v97 =>
 @qbq v97 ⟨fun q=>if q=true then @qbb (qbc (.fld 0) [H13]) ⟨fun v100 =>
 @qbb (qbh none H45 [v100]) ⟨fun v101 =>
 @qbb (qbc (.ixS 2) [v101,i12]) ⟨fun v103 =>
 @qbb (qbh (some 2) H45 [v103]) ⟨fun v104 =>
 @qbb (qbc (.ixS 1) [v39,i12]) ⟨fun v107 =>
 @qbb (qbh none H45 [v107]) ⟨fun v108 =>
 @cG 58 [v108] H45 ⟨fun v109 H46 =>
 (chkX [4,1] (⟨4,(some 2),[v103],v104⟩ :: (⟨1,none,[v100],v101⟩ :: [])) H46∧@qbb (xbin .neq 5 v104 v109) ⟨fun v110 =>
 @qbg (asNB v110) (fun J29=>@qbb (qbc (.fld 0) [H20]) ⟨fun v112 =>
 J29 v112 H46⟩) H46 ⟨fun v112a H47 =>
 @qbg (asNB v110) (fun J30=>@qbb (qbh none H47 [v112a]) ⟨fun v113 =>
 J30 v113 H47⟩) H47 ⟨fun v113a H48=>@letD (bif (asNB v110) then⟨13,none,[v112a],v113a⟩ :: (⟨4,(some 2),[v103],v104⟩ :: (⟨1,none,[v100],v101⟩ :: [])) else (⟨4,(some 2),[v103],v104⟩ :: (⟨1,none,[v100],v101⟩ :: []))) ⟨fun D1 =>
 @qbg (asNB v110) (fun J31=>J31 i12 H48) H48 ⟨fun v114 H49 =>
 @qbg (asNB v110) (fun J32=>@qbb (qbc (.ixS 2) [v113a,v114]) ⟨fun v115 =>
 J32 v115 H49⟩) H49 ⟨fun v115a H50 =>
 @qbg (asNB v110) (fun J33=>@qbb (qbh (some 2) H50 [v115a]) ⟨fun v116 =>
 J33 v116 H50⟩) H50 ⟨fun v116a H51=>@letD (bif (asNB v110) then⟨16,(some 2),[v115a],v116a⟩ :: D1 else D1) ⟨fun D2 =>
 @qbg (asNB v110) (fun J34=>@qbb (qbc (.fld 0) [H14]) ⟨fun v117 =>
 J34 v117 H51⟩) H51 ⟨fun v117a H52 =>
 @qbg (asNB v110) (fun J35=>@qbb (qbh none H52 [v117a]) ⟨fun v118 =>
 J35 v118 H52⟩) H52 ⟨fun v118a H53 =>
 @qbg (asNB v110) (fun J36=>J36 i12 H53) H53 ⟨fun v119 H54 =>
 @qbg (asNB v110) (fun J37=>@qbb (qbc (.ixS 1) [v118a,v119]) ⟨fun v120 =>
 J37 v120 H54⟩) H54 ⟨fun v120a H55 =>
 @qbg (asNB v110) (fun J38=>@qbb (qbh none H55 [v120a]) ⟨fun v121 =>
 J38 v121 H55⟩) H55 ⟨fun v121a H56 =>
 @qbg (asNB v110) (fun J39=>@cG 58 [v121a] H56 ⟨fun v122 H57 =>
 (chkX [16,13] D2 H57∧J39 v122 H57)⟩) H56 ⟨fun v122a H58 =>
 @qbg (asNB v110) (fun J40=>@qbb (xbin .neq 5 v116a v122a) ⟨fun v123 =>
 J40 v123 H58⟩) H58 ⟨fun v123a H59 =>
 @qb1 v110 (.bool true) v123a ⟨fun v124 =>
 @qbq v124 ⟨fun q=>if q=true then R (.bool false) H59 else
 @qbb (xbin .add 0 i12 (nv 1)) ⟨fun v99 =>
 K28 v99 H59⟩⟩⟩⟩⟩⟩⟩⟩⟩⟩⟩⟩⟩⟩⟩⟩⟩⟩)⟩⟩⟩⟩⟩⟩⟩ else
 R v13 H45⟩⟩⟩⟩⟩⟩⟩⟩⟩⟩⟩⟩⟩⟩⟩⟩⟩⟩⟩⟩⟩⟩⟩⟩⟩⟩⟩⟩⟩⟩⟩⟩⟩⟩⟩⟩⟩⟩⟩⟩⟩⟩⟩⟩⟩)⟩⟩⟩⟩⟩⟩⟩⟩⟩⟩⟩⟩⟩⟩⟩⟩⟩⟩⟩⟩⟩⟩⟩⟩⟩⟩⟩⟩⟩⟩⟩⟩⟩⟩⟩⟩⟩⟩
theorem g9_of {x0:Value} {H:AH} {R:Value→AH→Prop} (h:g9 x0 H R):FN Tryz.prog 9 [x0] H R:=
  FN.of_XM (ms:=[(21,[12])]) qbs (cast (by kernel_rfl) h)
def g10 (x0:Value) (H:AH) (R:Value→AH→Prop):Prop:=
 @letH (H++[.cells (qbn x0) 24 none false]) ⟨fun H1 =>
 @cG 51 [] H1 ⟨fun v15 H2 =>
 @qbb (eun .not v15) ⟨fun v17 =>
 @qbq v17 ⟨fun q=>if q=true then R (.bool false) H2 else
 @qbb (qbh (some 4) H2 [H]) ⟨fun v18 =>
 @cG 12 [v18] H2 ⟨fun v19 H3 =>
 @letH (H3++[.cells [nv 0,nv 0,.slice none 0 0] 29 none false]) ⟨fun H4 =>
 @qbt (xact (.st 3) H4 [H3,v19]) ⟨fun _v H5 =>
 @qbb (qbh (some 3) H5 [H3]) ⟨fun v21 =>
 @cG 54 [v21] H5 ⟨fun v22 H6 =>
 @qbb (qbc (.ext 0) [v22]) ⟨fun v23 =>
 @qbb (qbc (.ext 1) [v22]) ⟨fun v24 =>
 @qbb (qbc (.fld 0) [H3]) ⟨fun v25 =>
 @qbb (qbh none H6 [v25]) ⟨fun v26 =>
 @qbb (qbc (.fld 1) [H3]) ⟨fun v27 =>
 @qbb (qbh none H6 [v27]) ⟨fun v28 =>
 @cG 56 [v26,v28,v23] H6 ⟨fun v30 H7 =>
 @letH (H7++[.cells [.slice none 0 0,nv 0] 66 none false]) ⟨fun H8 =>
 @qbt (xact (.st 2) H8 [H7,v30]) ⟨fun _v H9 =>
 @qbb (xbin .neq 0 v24 (nv 0)) ⟨fun v32 =>
 @qbg (asNB v32) (fun J1=>@qbb (qbc (.fld 1) [H7]) ⟨fun v34 =>
 J1 v34 H9⟩) H9 ⟨fun v34a H10 =>
 @qbg (asNB v32) (fun J2=>@qbb (qbh none H10 [v34a]) ⟨fun v35 =>
 J2 v35 H10⟩) H10 ⟨fun v35a H11 =>
 @qbg (asNB v32) (fun J3=>@qbb (xbin .neq 0 v35a (nv 0)) ⟨fun v36 =>
 J3 v36 H11⟩) H11 ⟨fun v36a H12 =>
 @qb1 v32 (.bool true) v36a ⟨fun v37 =>
 @qbq v37 ⟨fun q=>if q=true then R (.bool false) H12 else
 @qbb (qbc (.fld 0) [H3]) ⟨fun v38 =>
 @qbb (qbh none H12 [v38]) ⟨fun v39 =>
 @qbb (qbc (.fld 1) [H3]) ⟨fun v40 =>
 @qbb (qbh none H12 [v40]) ⟨fun v41 =>
 @qbb (qbc (.fld 0) [H7]) ⟨fun v42 =>
 @qbb (qbh none H12 [v42]) ⟨fun v43 =>
 @cG 56 [v39,v41,v43] H12 ⟨fun v44 H13 =>
 @letH (H13++[.cells [.slice none 0 0,nv 0] 66 none false]) ⟨fun H14 =>
 @qbt (xact (.st 2) H14 [H13,v44]) ⟨fun _v H15 =>
 @qbb (qbh (some 3) H15 [H3]) ⟨fun v45 =>
 @cG 53 [v45] H15 ⟨fun v46 H16 =>
 @loopV2 (nv 0) (nv 0) H16 ⟨fun sum9 i11 H17 K4 =>
 @qbb (qbc (.fld 0) [H7]) ⟨fun v48 =>
 @qbb (qbh none H17 [v48]) ⟨fun v49 =>
 @qbb (qbc .lenS [v49]) ⟨fun v50 =>
 @qbb (xbin .lss 0 i11 v50) ⟨fun v51 =>
 @qbq v51 ⟨fun q=>if q=true then @qbb (qbc (.fld 0) [H7]) ⟨fun v55 =>
 @qbb (qbh none H17 [v55]) ⟨fun v56 =>
 @qbb (qbc (.ixS 1) [v56,i11]) ⟨fun v58 =>
 @qbb (qbh none H17 [v58]) ⟨fun v59 =>
 @qbb (xbin .add 0 sum9 v59) ⟨fun v60 =>
 @qbb (xbin .add 0 i11 (nv 1)) ⟨fun v53 =>
 K4 v60 v53 H17⟩⟩⟩⟩⟩⟩ else
 @loopV3 sum9 v46 (nv 0) H17 ⟨fun sum9a words10 i12 H18 K5 =>
 @qbb (qbc (.fld 1) [H3]) ⟨fun v62 =>
 @qbb (qbh none H18 [v62]) ⟨fun v63 =>
 @qbb (xbin .lss 0 i12 v63) ⟨fun v64 =>
 @qbq v64 ⟨fun q=>if q=true then @joinV2 (fun J6=>@qbb (qbc (.fld 0) [H3]) ⟨fun v68 =>
 @qbb (qbh none H18 [v68]) ⟨fun v69 =>
 @qbb (xbin .rem 0 words10 v69) ⟨fun v70 =>
 @qbb (xbin .eql 0 v70 (nv 0)) ⟨fun v71 =>
 @qbq v71 ⟨fun q=>if q=true then @qbb (qbc (.fld 0) [H3]) ⟨fun v73 =>
 @qbb (qbh none H18 [v73]) ⟨fun v74 =>
 @qbb (xbin .quo 0 words10 v74) ⟨fun v75 =>
 J6 sum9a v75 H18⟩⟩⟩ else
 @qbb (qbc (.fld 0) [H3]) ⟨fun v77 =>
 @qbb (qbh none H18 [v77]) ⟨fun v78 =>
 @qbb (xbin .quo 0 sum9a v78) ⟨fun v79 =>
 J6 v79 words10 H18⟩⟩⟩⟩⟩⟩⟩⟩) ⟨fun sum9b words10a H19 =>
 @qbb (xbin .add 0 i12 (nv 1)) ⟨fun v66 =>
 K5 sum9b words10a v66 H19⟩⟩ else
 @qbb (qbh (some 3) H18 [H3]) ⟨fun v81 =>
 @cG 47 [v81] H18 ⟨fun v82 H20 =>
 @cG 54 [v82] H20 ⟨fun v83 H21 =>
 @qbb (qbc (.ext 0) [v83]) ⟨fun v84 =>
 @qbb (qbc (.ext 1) [v83]) ⟨fun v85 =>
 @qbb (xbin .eql 0 v85 (nv 0)) ⟨fun v87 =>
 @qbg (asB v87) (fun J7=>J7 v84 H21) H21 ⟨fun v89 H22 =>
 @qbg (asB v87) (fun J8=>@qbb (qbc (.fld 0) [H7]) ⟨fun v90 =>
 J8 v90 H22⟩) H22 ⟨fun v90a H23 =>
 @qbg (asB v87) (fun J9=>@qbb (qbh none H23 [v90a]) ⟨fun v91 =>
 J9 v91 H23⟩) H23 ⟨fun v91a H24 =>
 @qbg (asB v87) (fun J10=>@cG 59 [v89,v91a] H24 ⟨fun v92 H25 =>
 J10 v92 H25⟩) H24 ⟨fun v92a H26 =>
 @qbg (asB v87) (fun J11=>@qbb (eun .not v92a) ⟨fun v93 =>
 J11 v93 H26⟩) H26 ⟨fun v93a H27 =>
 @qb1 v87 v93a (.bool false) ⟨fun v94 =>
 @qbq v94 ⟨fun q=>if q=true then R (.bool false) H27 else
 @qbb (qbc (.fld 1) [H13]) ⟨fun v95 =>
 @qbb (qbh none H27 [v95]) ⟨fun v96 =>
 @qbb (xbin .eql 0 v96 (nv 0)) ⟨fun v97 =>
 @qbg (asB v97) (fun J12=>@qbb (qbc (.fld 0) [H13]) ⟨fun v99 =>
 J12 v99 H27⟩) H27 ⟨fun v99a H28 =>
 @qbg (asB v97) (fun J13=>@qbb (qbh none H28 [v99a]) ⟨fun v100 =>
 J13 v100 H28⟩) H28 ⟨fun v100a H29 =>
 @qbg (asB v97) (fun J14=>J14 v23 H29) H29 ⟨fun v101 H30 =>
 @qbg (asB v97) (fun J15=>@cG 59 [v100a,v101] H30 ⟨fun v102 H31 =>
 J15 v102 H31⟩) H30 ⟨fun v102a H32 =>
 @qb1 v97 v102a (.bool false) ⟨fun v103 =>
 @qbg (asB v103) (fun J16=>@qbb (qbc (.fld 0) [H7]) ⟨fun v105 =>
 J16 v105 H32⟩) H32 ⟨fun v105a H33 =>
 @qbg (asB v103) (fun J17=>@qbb (qbh none H33 [v105a]) ⟨fun v106 =>
 J17 v106 H33⟩) H33 ⟨fun v106a H34 =>
 @qbg (asB v103) (fun J18=>@qbb (qbc .lenS [v106a]) ⟨fun v107 =>
 J18 v107 H34⟩) H34 ⟨fun v107a H35 =>
 @qbg (asB v103) (fun J19=>@qbb (qbc (.fld 1) [H3]) ⟨fun v108 =>
 J19 v108 H35⟩) H35 ⟨fun v108a H36 =>
 @qbg (asB v103) (fun J20=>@qbb (qbh none H36 [v108a]) ⟨fun v109 =>
 J20 v109 H36⟩) H36 ⟨fun v109a H37 =>
 @qbg (asB v103) (fun J21=>@qbb (xbin .add 0 v109a (nv 1)) ⟨fun v110 =>
 J21 v110 H37⟩) H37 ⟨fun v110a H38 =>
 @qbg (asB v103) (fun J22=>@qbb (xbin .eql 0 v107a v110a) ⟨fun v111 =>
 J22 v111 H38⟩) H38 ⟨fun v111a H39 =>
 @qb1 v103 v111a (.bool false) ⟨fun v112 =>
 @qbg (asB v112) (fun J23=>@qbb (qbc (.fld 0) [H7]) ⟨fun v114 =>
 J23 v114 H39⟩) H39 ⟨fun v114a H40 =>
 @qbg (asB v112) (fun J24=>@qbb (qbh none H40 [v114a]) ⟨fun v115 =>
 J24 v115 H40⟩) H40 ⟨fun v115a H41 =>
 @qbg (asB v112) (fun J25=>@qbb (qbc (.ixS 1) [v115a,nv 0]) ⟨fun v116 =>
 J25 v116 H41⟩) H41 ⟨fun v116a H42 =>
 @qbg (asB v112) (fun J26=>@qbb (qbh none H42 [v116a]) ⟨fun v117 =>
 J26 v117 H42⟩) H42 ⟨fun v117a H43 =>
 @qbg (asB v112) (fun J27=>@qbb (xbin .eql 0 v117a (nv 1)) ⟨fun v118 =>
 J27 v118 H43⟩) H43 ⟨fun v118a H44 =>
 @qb1 v112 v118a (.bool false) ⟨fun v119 =>
 @qbg (asB v119) (fun J28=>J28 words10 H44) H44 ⟨fun v121 H45 =>
 @qbg (asB v119) (fun J29=>@qbb (xbin .eql 0 v121 (nv 1)) ⟨fun v122 =>
 J29 v122 H45⟩) H45 ⟨fun v122a H46 =>
 @qb1 v119 v122a (.bool false) ⟨fun v123 =>
 @qbg (asB v123) (fun J30=>J30 sum9a H46) H46 ⟨fun v125 H47 =>
 @qbg (asB v123) (fun J31=>@qbb (xbin .eql 0 v125 (nv 1)) ⟨fun v126 =>
 J31 v126 H47⟩) H47 ⟨fun v126a H48 =>
 @qb1 v123 v126a (.bool false) ⟨fun v127 =>
 @qbg (asB v127) (fun J32=>J32 v85 H48) H48 ⟨fun v129 H49 =>
 @qbg (asB v127) (fun J33=>@qbb (xbin .eql 0 v129 (nv 0)) ⟨fun v130 =>
 J33 v130 H49⟩) H49 ⟨fun v130a H50 =>
 @qbg (asB v127) (fun J34=>J34 v130a H50) H50 ⟨fun v131 H51 =>
 @qbg (asNB v131) (fun J35=>J35 v85 H51) H51 ⟨fun v132 H52 =>
 @qbg (asNB v131) (fun J36=>@qbb (xbin .eql 0 v132 (nv 2)) ⟨fun v133 =>
 J36 v133 H52⟩) H52 ⟨fun v133a H53 =>
 @qbg (asB v127) (fun J37=>@qb1 v131 (.bool true) v133a ⟨fun v134 =>
 J37 v134 H53⟩) H53 ⟨fun v134a H54 =>
 @qb1 v127 v134a (.bool false) ⟨fun v135 =>
 @qbg (asB v135) (fun J38=>J38 v15 H54) H54 ⟨fun v137 H55 =>
 @qb1 v135 v137 (.bool false) ⟨fun v138 =>
 R v138 H55⟩⟩⟩⟩⟩⟩⟩⟩⟩⟩⟩⟩⟩⟩⟩⟩⟩⟩⟩⟩⟩⟩⟩⟩⟩⟩⟩⟩⟩⟩⟩⟩⟩⟩⟩⟩⟩⟩⟩⟩⟩⟩⟩⟩⟩⟩⟩⟩⟩⟩⟩⟩⟩⟩⟩⟩⟩⟩⟩⟩⟩⟩⟩⟩⟩⟩⟩⟩⟩⟩⟩⟩⟩⟩⟩⟩⟩⟩⟩⟩⟩⟩⟩⟩⟩⟩⟩⟩⟩⟩⟩⟩⟩⟩⟩⟩⟩
end Go.Sim

namespace Go.Sim
open Go Go.Proofs Kr
section
variable {α:Type} [Fl α] [DecidableEq α] {cd:α→Nat} {dec:Nat→α} {q:Nat}
theorem wct_total {n:Nat}:∀ ws:List (List α),(∀ x∈ws,lwt x≤n)→sumN (n+1) (wct ws)=ws.length
  | [],_=>by
    have:∀ m,sumN m (wct ([]:List (List α)))=0:=fun m=>by
      induction m with
      | zero=>rfl
      | succ m ih=>show sumN m _+_=0;rw [ih];rfl
    exact this _
  | x :: ws,h=>by
    have ih:=wct_total ws fun y hy=>h y (List.mem_cons_of_mem _ hy)
    have hx:=h x (List.mem_cons_self ..)
    have key:∀ m,sumN m (wct (x :: ws))=sumN m (wct ws)+if lwt x<m then 1 else 0:=fun m=>by
      induction m with
      | zero=>rfl
      | succ m ih =>
        show sumN m _+wct (x :: ws) m=sumN m _+wct ws m+_
        rw [ih,qpb]
        by_cases h1:lwt x<m
        · rw [if_pos h1,if_neg (by omega),if_pos (by omega)];omega
        · by_cases h2:lwt x=m
          · rw [if_neg h1,if_pos h2,if_pos (by omega)];omega
          · rw [if_neg h1,if_neg h2,if_neg (by omega)];omega
    rw [key,ih,if_pos (by omega)];rfl
theorem wct_zero1 {A ws:List (List α)} {n:Nat} (hW:Wds A n q ws) (hA:LRed n A):wct ws 0=1:=by
  obtain⟨x,hx,e⟩:=hW.all (fun _=>Fl.zero) Span.zero
  have hxz:lwt x=0:=by
    rw [qq4 n x (hW.mem x hx).1,e]
    exact vwt_zero.2 fun j _=>rfl
  have huniq:∀ y∈ws,lwt y=0→y=x:=fun y hy h=>by
    refine qqb (by rw [(hW.mem x hx).1,(hW.mem y hy).1]) ?_
    rw [e]
    rw [qq4 n y (hW.mem y hy).1,vwt_zero] at h
    funext j
    by_cases hj:j<n
    · exact h j hj
    · show y.getD j Fl.zero=Fl.zero
      rw [List.getD_eq_getElem?_getD,List.getElem?_eq_none (by rw [(hW.mem y hy).1];omega)];rfl
  have key:∀ ws:List (List α),ws.Nodup→(∀ y∈ws,lwt y=0→y=x)→wct ws 0=if x∈ws then 1 else 0:=by
    intro ws
    induction ws with
    | nil=>intro _ _;rfl
    | cons y ws ih =>
      intro hn hu
      obtain⟨h1,h2⟩:=List.nodup_cons.1 hn
      have ih':=ih h2 fun z hz=>hu z (List.mem_cons_of_mem _ hz)
      rw [qpb,ih']
      by_cases hy:lwt y=0
      · have:=hu y (List.mem_cons_self ..) hy
        subst this
        rw [if_neg h1,if_pos hy,if_pos (List.mem_cons_self ..)]
      · have hne:x≠y:=fun h=>hy (h ▸ hxz)
        rw [if_neg hy]
        by_cases hx2:x∈ws
        · rw [if_pos hx2,if_pos (List.mem_cons_of_mem _ hx2)]
        · rw [if_neg hx2,if_neg (fun h=>(List.mem_cons.1 h).elim hne hx2)]
  rw [key ws hW.nd huniq,if_pos hx]
end
end Go.Sim

namespace Go.Sim
open Go Go.Proofs
def fcs (fs:List (Int×Nat)):List Value:=fs.flatMap fun f=>[zv f.1,zv f.2]
theorem fcs_len (fs:List (Int×Nat)):(fcs fs).length=2*fs.length:=by
  induction fs with
  | nil=>rfl
  | cons f fs ih=>simp [fcs] at ih ⊢;omega
theorem fcs_snoc (fs:List (Int×Nat)) (f:Int×Nat):fcs (fs++[f])=fcs fs++[zv f.1,zv f.2]:=by simp [fcs]
theorem fcs_drop:∀ (fs:List (Int×Nat)) (k:Nat),k<fs.length→(fcs fs).drop (k*2)=zv (fs.getD k (0,0)).1 :: zv (fs.getD k (0,0)).2 :: fcs (fs.drop (k+1))
  | [],k,h=>by simp at h
  | f :: fs,0,_=>by simp [fcs]
  | f :: fs,k+1,h=>by
    have:=fcs_drop fs k (by simpa using h)
    rw [show (k+1)*2=k*2+1+1 by omega]
    simpa [fcs] using this
def RowF (H:AH) (v:Value) (fs:List (Int×Nat)):Prop:=
  (fs=[]∧∃ a c,v=.slice a 0 c)∨∃ b c e op r,v=.slice (some ⟨b,0,none⟩) fs.length c∧H[b]? = some (.cells (fcs fs) e op r)∧fs.length≤c
theorem RowF.pre {H H':AH} {v:Value} {fs:List (Int×Nat)} (h:RowF H v fs) (hp:Pre H H'):RowF H' v fs:=by
  rcases h with h|⟨b,c,e,op,r,h1,h2,h3⟩
  · exact .inl h
  · exact .inr ⟨b,c,e,op,r,h1,hp.get h2,h3⟩
def ptrF:Value→Nat→Value
  | .slice (some a) _ _,k=>.pointer (some ⟨a.block,k*2,none⟩)
  | _,_=>undef
def ptrF1:Value→Nat→Value
  | .slice (some a) _ _,k=>.pointer (some ⟨a.block,k*2+1,none⟩)
  | _,_=>undef
theorem RowF.all {H:AH} {v:Value} {fs:List (Int×Nat)} (h:RowF H v fs) :
    qbc .lenS [v]=some (nv fs.length)∧(∀ k,k<fs.length→qbc (.ixS 2) [v,nv k]=some (ptrF v k))∧(∀ k,k<fs.length→qbc (.fld 0) [ptrF v k]=some (ptrF v k))∧(∀ k,k<fs.length→qbc (.fld 1) [ptrF v k]=some (ptrF1 v k)) ∧
    (∀ k Y,k<fs.length→qbh (some 2) (H++Y) [ptrF v k]=some (frv (fs.getD k (0,0)).1 (fs.getD k (0,0)).2))∧(∀ k Y,k<fs.length→qbh none (H++Y) [ptrF v k]=some (zv (fs.getD k (0,0)).1))∧(∀ k Y,k<fs.length→qbh none (H++Y) [ptrF1 v k]=some (zv (fs.getD k (0,0)).2)):=by
  rcases h with ⟨rfl,a,c,rfl⟩|⟨b,c,e,op,r,rfl,h2,h3⟩
  · exact⟨rfl,by simp,by simp,by simp,by simp,by simp,by simp⟩
  · have hg:∀ Y,(H++Y)[b]? = some (.cells (fcs fs) e op r):=fun Y=>qc4 h2 Y
    have hd:=fcs_drop fs
    have hl:=fcs_len fs
    refine⟨rfl,fun k hk=>?_,fun k hk=>rfl,fun k hk=>rfl,fun k Y hk=>?_,fun k Y hk=>?_,fun k Y hk=>?_⟩
    · rw [qpv (by omega) (by omega)];simp [ptrF]
    · unfold ptrF
      rw [qfx (hg Y),xpart_some (by omega),hd k hk]
      rfl
    · unfold ptrF
      have:=hd k hk
      rw [qfx (hg Y),qk2]
      have h4:((fcs fs).drop (k*2))[0]? = some (zv (fs.getD k (0,0)).1):=by rw [this];rfl
      simpa using h4
    · unfold ptrF1
      have:=hd k hk
      rw [qfx (hg Y),qk2]
      have h4:((fcs fs).drop (k*2))[1]? = some (zv (fs.getD k (0,0)).2):=by rw [this];rfl
      simpa using h4
theorem RowF.one {H:AH} {v:Value} {fs:List (Int×Nat)} (h:RowF H v fs):one v=true:=by
  rcases h with ⟨_,a,c,rfl⟩|⟨b,c,e,op,r,rfl,h2,h3⟩<;>rfl
theorem RowF.cells {H:AH} {v:Value} {fs:List (Int×Nat)} (h:RowF H v fs):qbn v=[v]:=by
  rcases h with ⟨_,a,c,rfl⟩|⟨b,c,e,op,r,rfl,h2,h3⟩<;>rfl
def AccF (H0 H:AH) (v:Value) (fs:List (Int×Nat)):Prop:=
  (fs=[]∧v=.slice none 0 0)∨∃ b,H0.length≤b∧v=.slice (some ⟨b,0,none⟩) fs.length fs.length∧H[b]? = some (.cells (fcs fs) 70 (some 2) false)
theorem AccF.nil {H0 H:AH}:AccF H0 H (.slice none 0 0) []:=.inl ⟨rfl,rfl⟩
theorem AccF.row {H0 H:AH} {v:Value} {fs:List (Int×Nat)} (h:AccF H0 H v fs):RowF H v fs:=by
  rcases h with ⟨rfl,rfl⟩|⟨b,_,rfl,h2⟩
  · exact .inl ⟨rfl,_,_,rfl⟩
  · exact .inr ⟨b,_,_,_,_,rfl,h2,Nat.le_refl _⟩
theorem AccF.keep {H0 H H':AH} {v:Value} {fs:List (Int×Nat)} (h:AccF H0 H v fs) (hp:∀ b,H0.length≤b→b<H.length→H'[b]? = H[b]?):AccF H0 H' v fs:=by
  rcases h with h|⟨b,h1,rfl,h2⟩
  · exact .inl h
  · exact .inr ⟨b,h1,rfl,by rw [hp b h1 (qbr h2)];exact h2⟩
theorem AccF.pre {H0 H H':AH} {v:Value} {fs:List (Int×Nat)} (h:AccF H0 H v fs) (hp:Pre H H'):AccF H0 H' v fs:=h.keep fun b _ hb=>hp b hb
theorem AccF.mono {H0 H1 H:AH} {v:Value} {fs:List (Int×Nat)} (h:AccF H1 H v fs) (hl:H0.length≤H1.length):AccF H0 H v fs:=by
  rcases h with h|⟨b,h1,rfl,h2⟩
  · exact .inl h
  · exact .inr ⟨b,by omega,rfl,h2⟩
theorem AccF.app1 {H0 H:AH} (hl0:H0.length≤H.length) {v:Value} {fs:List (Int×Nat)} (h:AccF H0 H v fs) (n:Int) (d:Nat) (hb:fs.length<1000000) :
    ∃ v' H',xact (.app 70 2 16) (H++[.cells [zv n,zv d] 70 none false]) [v,.slice (some ⟨H.length,0,none⟩) 1 1]=some (v',H')∧AccF H0 H' v' (fs++[(n,d)])∧(∀ b,b<H0.length→H'[b]? = H[b]?)∧H.length≤H'.length:=by
  have hnew:(H++[AB.cells [zv n,zv d] 70 none false])[H.length]? = some (.cells [zv n,zv d] 70 none false):=by simp
  have he:erow (H++[AB.cells [zv n,zv d] 70 none false]) (.slice (some ⟨H.length,0,none⟩) 1 1) (slen (.slice (some ⟨H.length,0,none⟩) 1 1)*2)=some [zv n,zv d]:=by
    simp [erow,slen]
  have h1:[zv n,zv d].all Sim.one=true:=rfl
  unfold xact
  simp only [he]
  rcases h with ⟨rfl,rfl⟩|⟨b,hb1,rfl,h2⟩
  · rw [if_pos ⟨by simp [slen],by simp [slen],h1⟩]
    simp only [slen,show ¬((1:Nat)=0) by decide,if_false]
    refine⟨_,_,rfl,.inr ⟨H.length+1,by omega,by simp,by simp [fcs]⟩,fun b hb=>?_,by simp⟩
    rw [List.getElem?_append_left (by simp;omega),List.getElem?_append_left (by omega)]
  · have hlt:=qbr h2
    have hg:=qc4 h2 [AB.cells [zv n,zv d] 70 none false]
    rw [if_pos ⟨by simp [slen];omega,by simp [slen];omega,h1⟩]
    have hc:¬fs.length+1≤fs.length:=by omega
    have hq:fs.length*2=(fcs fs).length:=by rw [fcs_len];omega
    simp only [hg,slen,hc,hq,if_false,reduceCtorEq,and_self,if_true]
    refine⟨_,_,rfl,.inr ⟨H.length+1,by omega,by simp,?_⟩,fun b' hb'=>?_,by simp;omega⟩
    · rw [fcs_snoc];simp
    · rw [List.getElem?_append_left (by simp;omega),List.getElem?_set_ne (by omega),List.getElem?_append_left (by omega)]
end Go.Sim
