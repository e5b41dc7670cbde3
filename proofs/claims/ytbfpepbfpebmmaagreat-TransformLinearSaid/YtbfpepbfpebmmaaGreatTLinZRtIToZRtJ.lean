/- Part of the proof: ZRtI, ZRtJ. -/
import Derived.Test.YtbfpepbfpebmmaaGreatTLinTlMToZRtH
import Derived.Test.YtbfpepbfpebmmaaGreatTLinZRtP
set_option linter.all false
namespace Go.Sim
open Go Go.Proofs
def finF (a:Int) (m:Nat):Value:=if (rN a m).natAbs≤4611686018427387904∧rD a m≤4611686018427387904 then .tuple [frv (rN a m) (rD a m),nv 0].toArray else .tuple [frv 0 0,nv 2].toArray
theorem finF_clo {a:Int} {m:Nat}:clo (finF a m)=true:=by
  unfold finF;split<;>simp [clo,ground,scal,frv]
structure FrOK (n:Int) (d:Nat):Prop where
  pos:0<d
  le:d≤4611686018427387904
  nle:n.natAbs≤4611686018427387904
  cop:Nat.gcd n.natAbs d=1
theorem c_u64 {d:Nat} (h:d<9223372036854775808):qbc (.conv .u64) [zv d]=some (uw d):=by
  have:qbc (.conv .u64) [zv d]=some (.int .u64 (IntKind.u64.wrap (d:Int))):=rfl
  rw [this,wrapU];congr 2;omega
theorem c_i64 {d:Nat} (h:d<9223372036854775808):qbc (.conv .i64) [uw d]=some (zv d):=by
  have:qbc (.conv .i64) [uw d]=some (.int .i64 (IntKind.i64.wrap (d:Int))):=rfl
  rw [this,wrapI (by omega) (by omega)]
theorem tdiv_abs {a:Int} {g:Nat} (hg:g ∣ a.natAbs):(a.tdiv g).natAbs=a.natAbs / g∧(0<g→(a.tdiv g<0↔a<0)):=by
  obtain⟨k,hk⟩:=hg
  refine⟨by rw [Int.natAbs_tdiv];rfl,?_⟩
  intro h0
  rcases Int.lt_or_le a 0 with h|h
  · have e:a = -((g*k:Nat):Int):=by omega
    have:a.tdiv g = -(k:Int):=by
      rw [e,Int.neg_tdiv,Int.natCast_mul,Int.mul_tdiv_cancel_left _ (by omega)]
    rw [this]
    have:k≠0:=by rintro rfl;simp at hk;omega
    omega
  · have e:a=((g*k:Nat):Int):=by omega
    have:a.tdiv g=(k:Int):=by
      rw [e,Int.natCast_mul,Int.mul_tdiv_cancel_left _ (by omega)]
    rw [this];omega
theorem z_quo {a:Int} {g m:Nat} (h1:a.natAbs<9223372036854775808) (hg:g≠0):xbin .quo m (zv a) (zv g)=some (zv (a.tdiv g)):=by
  have h2:(a.tdiv g).natAbs≤a.natAbs:=by rw [Int.natAbs_tdiv];exact Nat.div_le_self _ _
  simp only [xbin]
  rw [if_pos ⟨trivial,by omega⟩,wrapI (by omega) (by omega)]
theorem qq3 {b:Bool} {n d m:Nat} {a:Int} (h1:(if b then -(n:Int) else n)=rN a m) (h2:d=rD a m):madeF b n false d=finF a m:=by
  unfold madeF finF
  have h3:(rN a m).natAbs=n:=by rw [←h1];split<;>omega
  rw [←h2,←h1] at *
  rw [h3]
  rfl
section
variable {H:AH} {n1 n2:Int} {d1 d2:Nat}
theorem qks {a b:Int}:(!(decide (a<0) == decide (b<0)))=decide (a<0∧0≤b∨0≤a∧b<0):=by
  rw [Bool.eq_iff_iff]
  simp only [Bool.not_eq_true',beq_eq_false_iff_ne,ne_eq,decide_eq_decide,decide_eq_true_eq]
  omega
theorem rmul_c (h1:FrOK n1 d1) (h2:FrOK n2 d2):FN Tryz.prog 164 [frv n1 d1,frv n2 d2] H (fun r H'=>r=finF (n1*n2) (d1*d2)∧H'=H):=by
  obtain⟨p1,l1,k1,c1⟩:=h1
  obtain⟨p2,l2,k2,c2⟩:=h2
  refine FN.pre0d (g164_of ?_) finF_clo
  unfold g164
  have e1:xbin .eql 0 (zv n1) (nv 0)=some (.bool (decide (n1=0))):=by
    simp only [xbin,if_true];congr 2
  have e2:xbin .eql 0 (zv n2) (nv 0)=some (.bool (decide (n2=0))):=by
    simp only [xbin,if_true];congr 2
  have ea:qbn (frv n1 d1)=[zv n1,zv d1]:=rfl
  have eb:qbn (frv n2 d2)=[zv n2,zv d2]:=rfl
  have hz:n1*n2=0→Value.tuple [frv 0 1,nv 0].toArray=finF (n1*n2) (d1*d2):=by
    intro h
    have:=qh4 (Nat.mul_pos p1 p2)
    unfold finF
    rw [h,this.1,this.2]
    rfl
  by_cases z1:n1=0
  · rw [decide_eq_true z1] at e1
    rw [←hz (by rw [z1,Int.zero_mul])]
    simp (disch:=(first|omega|(simp only [qbf]<;>omega)|(simp only [qbd];done)|rfl)) only [zA,zB,zC,zD,zF,zG,zH,Nat.reduceEqDiff,Nat.reduceLT,Nat.reduceLeDiff,↓reduceIte,ea,eb,e1]
    refine FZ.use rzero_c ?_
    simp (disch:=(first|omega|(simp only [qbf]<;>omega)|(simp only [qbd];done)|rfl)) only [zA,zB,zC,zD,zF,zG,zH,Nat.reduceEqDiff,Nat.reduceLT,Nat.reduceLeDiff,↓reduceIte]
    unfold frv
    rw [stB2 rfl rfl]
    simp (disch:=(first|omega|(simp only [qbf]<;>omega)|(simp only [qbd];done)|rfl)) only [zA,zB,zC,zD,zF,zG,zH,Nat.reduceEqDiff,Nat.reduceLT,Nat.reduceLeDiff,↓reduceIte]
    exact Pre.new _ _
  · rw [decide_eq_false z1] at e1
    by_cases z2:n2=0
    · rw [decide_eq_true z2] at e2
      rw [←hz (by rw [z2,Int.mul_zero])]
      simp (disch:=(first|omega|(simp only [qbf]<;>omega)|(simp only [qbd];done)|rfl)) only [zA,zB,zC,zD,zF,zG,zH,Nat.reduceEqDiff,Nat.reduceLT,Nat.reduceLeDiff,↓reduceIte,ea,eb,e1,e2]
      refine FZ.use rzero_c ?_
      simp (disch:=(first|omega|(simp only [qbf]<;>omega)|(simp only [qbd];done)|rfl)) only [zA,zB,zC,zD,zF,zG,zH,Nat.reduceEqDiff,Nat.reduceLT,Nat.reduceLeDiff,↓reduceIte]
      unfold frv
      rw [stB2 rfl rfl]
      simp (disch:=(first|omega|(simp only [qbf]<;>omega)|(simp only [qbd];done)|rfl)) only [zA,zB,zC,zD,zF,zG,zH,Nat.reduceEqDiff,Nat.reduceLT,Nat.reduceLeDiff,↓reduceIte]
      exact Pre.new _ _
    · rw [decide_eq_false z2] at e2
      have u1:=c_u64 (d:=d1) (by omega)
      have u2:=c_u64 (d:=d2) (by omega)
      simp (disch:=(first|omega|(simp only [qbf]<;>omega)|(simp only [qbd];done)|rfl)) only [zA,zB,zC,zD,zF,zG,zH,Nat.reduceEqDiff,Nat.reduceLT,Nat.reduceLeDiff,↓reduceIte,ea,eb,e1,e2,u1,u2]
      refine FZ.use (abs_c (by omega) (by omega)) ?_
      simp (disch:=(first|omega|(simp only [qbf]<;>omega)|(simp only [qbd];done)|rfl)) only [zA,zB,zC,zD,zF,zG,zH,Nat.reduceEqDiff,Nat.reduceLT,Nat.reduceLeDiff,↓reduceIte,u1,u2]
      refine FZ.use (gcd_c (a:=n1.natAbs) (b:=d2) (bl:=H.length+3) (e:=176) (op:=none) (r:=false) (by simp)) ?_
      have q1:0<Nat.gcd n1.natAbs d2:=Nat.gcd_pos_of_pos_right _ p2
      have q1l:Nat.gcd n1.natAbs d2≤d2:=Nat.le_of_dvd p2 (Nat.gcd_dvd_right _ _)
      have i1:=c_i64 (d:=Nat.gcd n1.natAbs d2) (by omega)
      simp (disch:=(first|omega|(simp only [qbf]<;>omega)|(simp only [qbd];done)|rfl)) only [zA,zB,zC,zD,zF,zG,zH,Nat.reduceEqDiff,Nat.reduceLT,Nat.reduceLeDiff,↓reduceIte,i1]
      refine FZ.use (abs_c (by omega) (by omega)) ?_
      simp (disch:=(first|omega|(simp only [qbf]<;>omega)|(simp only [qbd];done)|rfl)) only [zA,zB,zC,zD,zF,zG,zH,Nat.reduceEqDiff,Nat.reduceLT,Nat.reduceLeDiff,↓reduceIte,u1]
      refine FZ.use (gcd_c (a:=n2.natAbs) (b:=d1) (bl:=H.length+4) (e:=176) (op:=none) (r:=false) (by simp)) ?_
      have q2:0<Nat.gcd n2.natAbs d1:=Nat.gcd_pos_of_pos_right _ p1
      have q2l:Nat.gcd n2.natAbs d1≤d1:=Nat.le_of_dvd p1 (Nat.gcd_dvd_right _ _)
      have i2:=c_i64 (d:=Nat.gcd n2.natAbs d1) (by omega)
      have hR:=red_mul p1 p2 c1 c2 (g:=Nat.gcd n1.natAbs d2) (h:=Nat.gcd n2.natAbs d1) rfl rfl
      have v1:=tdiv_abs (a:=n1) (Nat.gcd_dvd_left n1.natAbs d2)
      have v2:=tdiv_abs (a:=n2) (Nat.gcd_dvd_left n2.natAbs d1)
      generalize Nat.gcd n1.natAbs d2=g at *
      generalize Nat.gcd n2.natAbs d1=h at *
      have w1:=z_quo (a:=n1) (g:=g) (m:=0) (by omega) (by omega)
      have w2:=z_quo (a:=n2) (g:=h) (m:=0) (by omega) (by omega)
      have w3:=z_quo (a:=d1) (g:=h) (m:=0) (by omega) (by omega)
      have w4:=z_quo (a:=d2) (g:=g) (m:=0) (by omega) (by omega)
      have y1:((d1:Int).tdiv h)=(d1 / h:Nat):=rfl
      have y2:((d2:Int).tdiv g)=(d2 / g:Nat):=rfl
      have b1:n1.natAbs / g≤n1.natAbs:=Nat.div_le_self _ _
      have b2:n2.natAbs / h≤n2.natAbs:=Nat.div_le_self _ _
      have b3:d1 / h≤d1:=Nat.div_le_self _ _
      have b4:d2 / g≤d2:=Nat.div_le_self _ _
      rw [y1] at w3
      rw [y2] at w4
      have B3:-9223372036854775808≤((d1 / h:Nat):Int)∧((d1 / h:Nat):Int)<9223372036854775808:=by
        clear w3 y1;generalize d1 / h=x at b3;omega
      have B4:-9223372036854775808≤((d2 / g:Nat):Int)∧((d2 / g:Nat):Int)<9223372036854775808:=by
        clear w4 y2;generalize d2 / g=x at b4;omega
      have v12:=v1.2 q1
      have v22:=v2.2 q2
      have v11:=v1.1
      have v21:=v2.1
      clear v1 v2 y1 y2
      generalize n1.tdiv g=x1 at *
      generalize n2.tdiv h=x2 at *
      simp (disch:=(first|omega|(simp only [qbf]<;>omega)|(simp only [qbd];done)|rfl)) only [zA,zB,zC,zD,zF,zG,zH,Nat.reduceEqDiff,Nat.reduceLT,Nat.reduceLeDiff,↓reduceIte,i2,w1,w2,w3,w4]
      refine FZ.use (qqc (by omega) (by omega)) ?_
      simp (disch:=(first|omega|(simp only [qbf]<;>omega)|(simp only [qbd];done)|rfl)) only [zA,zB,zC,zD,zF,zG,zH,Nat.reduceEqDiff,Nat.reduceLT,Nat.reduceLeDiff,↓reduceIte]
      refine FZ.use (qqc B3 B4) ?_
      simp (disch:=(first|omega|(simp only [qbf]<;>omega)|(simp only [qbd];done)|rfl)) only [zA,zB,zC,zD,zF,zG,zH,Nat.reduceEqDiff,Nat.reduceLT,Nat.reduceLeDiff,↓reduceIte]
      have sg:(!(decide (((d1 / h:Nat):Int)<0) == decide (((d2 / g:Nat):Int)<0)))=false:=by
        have g1:=Int.natCast_nonneg (d1 / h)
        have g2:=Int.natCast_nonneg (d2 / g)
        rw [qks,decide_eq_false]
        clear w3 w4
        generalize ((d1 / h:Nat):Int)=x at g1
        generalize ((d2 / g:Nat):Int)=y at g2
        omega
      have s2:((d1 / h:Nat):Int).natAbs*((d2 / g:Nat):Int).natAbs=d1 / h*(d2 / g):=rfl
      have s3:(!(decide (x1<0) == decide (x2<0)))=decide (n1*n2<0):=by
        rw [qks,decide_eq_decide]
        have hx:(x1<0∧0≤x2∨0≤x1∧x2<0)↔(n1<0∧0<n2∨0<n1∧n2<0):=by omega
        rw [hx]
        constructor
        · rintro (⟨a,b⟩|⟨a,b⟩)
          · exact Int.mul_neg_of_neg_of_pos a b
          · exact Int.mul_neg_of_pos_of_neg a b
        · intro hn
          rcases Int.lt_trichotomy n1 0 with a|a|a
          · rcases Int.lt_trichotomy n2 0 with b|b|b
            · have:=Int.mul_pos_of_neg_of_neg a b;omega
            · exact absurd b z2
            · exact .inl ⟨a,b⟩
          · exact absurd a z1
          · rcases Int.lt_trichotomy n2 0 with b|b|b
            · exact .inr ⟨a,b⟩
            · exact absurd b z2
            · have:=Int.mul_pos a b;omega
      rw [sg,s2,s3,v11,v21]
      have B1:n1.natAbs / g*(n2.natAbs / h)<340282366920938463463374607431768211456:=Nat.lt_of_le_of_lt (Nat.mul_le_mul (m₂:=4611686018427387904) (n₂:=4611686018427387904) (by omega) (by omega)) (by decide)
      have B2:d1 / h*(d2 / g)<340282366920938463463374607431768211456:=Nat.lt_of_le_of_lt (Nat.mul_le_mul (m₂:=4611686018427387904) (n₂:=4611686018427387904) (by omega) (by omega)) (by decide)
      refine FZ.use (rmade_c B1 B2) ?_
      have hm:=qq3 (b:=decide (n1*n2<0)) (n:=n1.natAbs / g*(n2.natAbs / h)) (d:=d1 / h*(d2 / g)) (a:=n1*n2) (m:=d1*d2) (by rw [←hR.1];simp only [decide_eq_true_eq]) hR.2
      rw [hm]
      unfold finF
      by_cases hs:(rN (n1*n2) (d1*d2)).natAbs≤4611686018427387904∧rD (n1*n2) (d1*d2)≤4611686018427387904
      · rw [if_pos hs]
        simp (disch:=(first|omega|(simp only [qbf]<;>omega)|(simp only [qbd];done)|rfl)) only [zA,zB,zC,zD,zF,zG,zH,Nat.reduceEqDiff,Nat.reduceLT,Nat.reduceLeDiff,↓reduceIte]
        unfold frv
        rw [stB2 rfl rfl]
        simp (disch:=(first|omega|(simp only [qbf]<;>omega)|(simp only [qbd];done)|rfl)) only [zA,zB,zC,zD,zF,zG,zH,Nat.reduceEqDiff,Nat.reduceLT,Nat.reduceLeDiff,↓reduceIte]
        exact Pre.new _ _
      · rw [if_neg hs]
        simp (disch:=(first|omega|(simp only [qbf]<;>omega)|(simp only [qbd];done)|rfl)) only [zA,zB,zC,zD,zF,zG,zH,Nat.reduceEqDiff,Nat.reduceLT,Nat.reduceLeDiff,↓reduceIte]
        unfold frv
        rw [stB2 rfl rfl]
        simp (disch:=(first|omega|(simp only [qbf]<;>omega)|(simp only [qbd];done)|rfl)) only [zA,zB,zC,zD,zF,zG,zH,Nat.reduceEqDiff,Nat.reduceLT,Nat.reduceLeDiff,↓reduceIte]
        exact Pre.new _ _
end
end Go.Sim

namespace Go.Sim
open Go Go.Proofs
section
variable {H:AH} {n1 n2:Int} {d1 d2:Nat}
theorem plusF_z {a b:Int} (ha:a.natAbs<85070591730234615865843651857942052864) (hb:b.natAbs<85070591730234615865843651857942052864):∃ s,plusF (decide (a<0)) a.natAbs (decide (b<0)) b.natAbs=wv s (a+b).natAbs∧(a+b≠0→s=decide (a+b<0)):=by
  unfold plusF
  by_cases h1:a<0<;>by_cases h2:b<0
  · rw [decide_eq_true h1,decide_eq_true h2,if_pos rfl]
    refine⟨true,?_,fun _=>?_⟩
    · rw [Nat.mod_eq_of_lt (by omega)];congr 1;omega
    · rw [decide_eq_true (by omega)]
  · rw [decide_eq_true h1,decide_eq_false h2,if_neg (by decide)]
    by_cases hm:b.natAbs≤a.natAbs
    · rw [if_pos hm]
      refine⟨true,by congr 1;omega,fun _=>?_⟩
      rw [decide_eq_true (by omega)]
    · rw [if_neg hm]
      refine⟨false,by congr 1;omega,fun _=>?_⟩
      rw [decide_eq_false (by omega)]
  · rw [decide_eq_false h1,decide_eq_true h2,if_neg (by decide)]
    by_cases hm:b.natAbs≤a.natAbs
    · rw [if_pos hm]
      refine⟨false,by congr 1;omega,fun _=>?_⟩
      rw [decide_eq_false (by omega)]
    · rw [if_neg hm]
      refine⟨true,by congr 1;omega,fun _=>?_⟩
      rw [decide_eq_true (by omega)]
  · rw [decide_eq_false h1,decide_eq_false h2,if_pos rfl]
    refine⟨false,?_,fun _=>?_⟩
    · rw [Nat.mod_eq_of_lt (by omega)];congr 1;omega
    · rw [decide_eq_false (by omega)]
theorem sgn_mul {a:Int} {d:Nat} (hd:0<d):(!(decide (a<0) == decide ((d:Int)<0)))=decide (a*d<0)∧a.natAbs*(d:Int).natAbs=(a*d).natAbs:=by
  refine⟨?_,by rw [Int.natAbs_mul]⟩
  rw [qks,decide_eq_decide]
  constructor
  · rintro (⟨a,b⟩|⟨a,b⟩)
    · exact Int.mul_neg_of_neg_of_pos a (by omega)
    · omega
  · intro hn
    rcases Int.lt_or_le a 0 with h|h
    · exact .inl ⟨h,by omega⟩
    · have:=Int.mul_nonneg h (show (0:Int)≤d by omega);omega
def AddDiv (n1:Int) (d1:Nat) (n2:Int) (d2:Nat):Prop:=∀ y,0<y→y≤4611686018427387904→DivOK ((n1*(d2 / Nat.gcd d1 d2:Nat)+n2*(d1 / Nat.gcd d1 d2:Nat)).natAbs / 18446744073709551616 % y) ((n1*(d2 / Nat.gcd d1 d2:Nat)+n2*(d1 / Nat.gcd d1 d2:Nat)).natAbs % 18446744073709551616) y
theorem radd_c (h1:FrOK n1 d1) (h2:FrOK n2 d2) (hD:AddDiv n1 d1 n2 d2):FN Tryz.prog 163 [frv n1 d1,frv n2 d2] H (fun r H'=>r=finF (n1*d2+n2*d1) (d1*d2)∧H'=H):=by
  obtain⟨p1,l1,k1,c1⟩:=h1
  obtain⟨p2,l2,k2,c2⟩:=h2
  refine FN.pre0d (g163_of ?_) finF_clo
  unfold g163
  unfold AddDiv at hD
  have ea:qbn (frv n1 d1)=[zv n1,zv d1]:=rfl
  have eb:qbn (frv n2 d2)=[zv n2,zv d2]:=rfl
  have u1:=c_u64 (d:=d1) (by omega)
  have u2:=c_u64 (d:=d2) (by omega)
  simp (disch:=(first|omega|(simp only [qbf]<;>omega)|(simp only [qbd];done)|rfl)) only [zA,zB,zC,zD,zF,zG,zH,Nat.reduceEqDiff,Nat.reduceLT,Nat.reduceLeDiff,↓reduceIte,ea,eb,u1,u2]
  refine FZ.use (gcd_c (a:=d1) (b:=d2) (bl:=H.length+3) (e:=176) (op:=none) (r:=false) (by simp)) ?_
  have hR:=red_add p1 p2 c1 c2 (t:=n1*(d2 / Nat.gcd d1 d2:Nat)+n2*(d1 / Nat.gcd d1 d2:Nat)) rfl
  have hE:n1*d2+n2*d1=(Nat.gcd d1 d2:Nat)*(n1*(d2 / Nat.gcd d1 d2:Nat)+n2*(d1 / Nat.gcd d1 d2:Nat)):=by
    have a1:d1=Nat.gcd d1 d2*(d1 / Nat.gcd d1 d2):=(Nat.mul_div_cancel' (Nat.gcd_dvd_left _ _)).symm
    have a2:d2=Nat.gcd d1 d2*(d2 / Nat.gcd d1 d2):=(Nat.mul_div_cancel' (Nat.gcd_dvd_right _ _)).symm
    generalize d1 / Nat.gcd d1 d2=x at *
    generalize d2 / Nat.gcd d1 d2=y at *
    generalize Nat.gcd d1 d2=g at *
    rw [a1,a2,Int.natCast_mul,Int.natCast_mul,Int.mul_add]
    congr 1
    · rw [Int.mul_left_comm]
    · rw [Int.mul_left_comm]
  have hg:0<Nat.gcd d1 d2:=Nat.gcd_pos_of_pos_left _ p1
  have hgl:Nat.gcd d1 d2≤d1:=Nat.le_of_dvd p1 (Nat.gcd_dvd_left _ _)
  have hg1:0<d1 / Nat.gcd d1 d2:=Nat.div_pos (Nat.le_of_dvd p1 (Nat.gcd_dvd_left _ _)) hg
  have hg2:0<d2 / Nat.gcd d1 d2:=Nat.div_pos (Nat.le_of_dvd p2 (Nat.gcd_dvd_right _ _)) hg
  have i1:=c_i64 (d:=Nat.gcd d1 d2) (by omega)
  have b3:d1 / Nat.gcd d1 d2≤d1:=Nat.div_le_self _ _
  have b4:d2 / Nat.gcd d1 d2≤d2:=Nat.div_le_self _ _
  generalize Nat.gcd d1 d2=g at *
  have w3:=z_quo (a:=d1) (g:=g) (m:=0) (by omega) (by omega)
  have w4:=z_quo (a:=d2) (g:=g) (m:=0) (by omega) (by omega)
  rw [show ((d1:Int).tdiv g)=(d1 / g:Nat) from rfl] at w3
  rw [show ((d2:Int).tdiv g)=(d2 / g:Nat) from rfl] at w4
  generalize hx1:d1 / g=x1 at *
  generalize hx2:d2 / g=x2 at *
  simp (disch:=(first|omega|(simp only [qbf]<;>omega)|(simp only [qbd];done)|rfl)) only [zA,zB,zC,zD,zF,zG,zH,Nat.reduceEqDiff,Nat.reduceLT,Nat.reduceLeDiff,↓reduceIte,i1,w3,w4]
  refine FZ.use (qqc (by omega) (by omega)) ?_
  simp (disch:=(first|omega|(simp only [qbf]<;>omega)|(simp only [qbd];done)|rfl)) only [zA,zB,zC,zD,zF,zG,zH,Nat.reduceEqDiff,Nat.reduceLT,Nat.reduceLeDiff,↓reduceIte]
  refine FZ.use (qqc (by omega) (by omega)) ?_
  simp (disch:=(first|omega|(simp only [qbf]<;>omega)|(simp only [qbd];done)|rfl)) only [zA,zB,zC,zD,zF,zG,zH,Nat.reduceEqDiff,Nat.reduceLT,Nat.reduceLeDiff,↓reduceIte]
  rw [(sgn_mul hg1).1,(sgn_mul hg1).2,(sgn_mul hg2).1,(sgn_mul hg2).2]
  have B1:(n1*(x2:Int)).natAbs<85070591730234615865843651857942052864:=by
    rw [Int.natAbs_mul]
    exact Nat.lt_of_le_of_lt (Nat.mul_le_mul (m₂:=4611686018427387904) (n₂:=4611686018427387904) (by omega) (by omega)) (by decide)
  have B2:(n2*(x1:Int)).natAbs<85070591730234615865843651857942052864:=by
    rw [Int.natAbs_mul]
    exact Nat.lt_of_le_of_lt (Nat.mul_le_mul (m₂:=4611686018427387904) (n₂:=4611686018427387904) (by omega) (by omega)) (by decide)
  refine FZ.use (plus_c (by omega) (by omega)) ?_
  obtain⟨s,hs1,hs2⟩:=plusF_z B1 B2
  rw [hs1]
  have B3:(n1*(x2:Int)+n2*(x1:Int)).natAbs<340282366920938463463374607431768211456:=by omega
  clear hs1
  generalize ht:n1*(x2:Int)+n2*(x1:Int)=t at *
  have ec:wv s t.natAbs=.agg #[.bool s,uw (t.natAbs / 18446744073709551616),uw (t.natAbs % 18446744073709551616)]:=rfl
  rw [ec]
  simp (disch:=(first|omega|(simp only [qbf]<;>omega)|(simp only [qbd];done)|rfl)) only [zA,zB,zC,zD,zF,zG,zH,Nat.reduceEqDiff,Nat.reduceLT,Nat.reduceLeDiff,↓reduceIte]
  rw [stB3 rfl rfl rfl]
  simp (disch:=(first|omega|(simp only [qbf]<;>omega)|(simp only [qbd];done)|rfl)) only [zA,zB,zC,zD,zF,zG,zH,Nat.reduceEqDiff,Nat.reduceLT,Nat.reduceLeDiff,↓reduceIte]
  have ed:Value.agg #[.bool s,uw (t.natAbs / 18446744073709551616),uw (t.natAbs % 18446744073709551616)]=wv s t.natAbs:=rfl
  rw [ed]
  refine FZ.use wzero_c ?_
  by_cases hz:t=0
  · have:decide (t.natAbs=0)=true:=by simp [hz]
    rw [this]
    have hfin:finF (n1*d2+n2*d1) (d1*d2)=Value.tuple [frv 0 1,nv 0].toArray:=by
      have h0:n1*d2+n2*d1=0:=by rw [hE,hz,Int.mul_zero]
      have:=qh4 (Nat.mul_pos p1 p2)
      unfold finF
      rw [h0,this.1,this.2]
      rfl
    rw [hfin]
    simp (disch:=(first|omega|(simp only [qbf]<;>omega)|(simp only [qbd];done)|rfl)) only [zA,zB,zC,zD,zF,zG,zH,Nat.reduceEqDiff,Nat.reduceLT,Nat.reduceLeDiff,↓reduceIte]
    refine FZ.use rzero_c ?_
    simp (disch:=(first|omega|(simp only [qbf]<;>omega)|(simp only [qbd];done)|rfl)) only [zA,zB,zC,zD,zF,zG,zH,Nat.reduceEqDiff,Nat.reduceLT,Nat.reduceLeDiff,↓reduceIte]
    unfold frv
    rw [stB2 rfl rfl]
    simp (disch:=(first|omega|(simp only [qbf]<;>omega)|(simp only [qbd];done)|rfl)) only [zA,zB,zC,zD,zF,zG,zH,Nat.reduceEqDiff,Nat.reduceLT,Nat.reduceLeDiff,↓reduceIte]
    exact Pre.new _ _
  · have:decide (t.natAbs=0)=false:=by simp [hz]
    rw [this]
    have hs:=hs2 hz
    simp (disch:=(first|omega|(simp only [qbf]<;>omega)|(simp only [qbd];done)|rfl)) only [zA,zB,zC,zD,zF,zG,zH,Nat.reduceEqDiff,Nat.reduceLT,Nat.reduceLeDiff,↓reduceIte]
    refine FZ.use (rem_c hg (hD g hg (by omega))) ?_
    have e5:(t.natAbs / 18446744073709551616*18446744073709551616+t.natAbs % 18446744073709551616)=t.natAbs:=by omega
    rw [e5]
    simp (disch:=(first|omega|(simp only [qbf]<;>omega)|(simp only [qbd];done)|rfl)) only [zA,zB,zC,zD,zF,zG,zH,Nat.reduceEqDiff,Nat.reduceLT,Nat.reduceLeDiff,↓reduceIte]
    refine FZ.use (gcd_c (a:=t.natAbs % g) (b:=g) (e:=176) (op:=none) (r:=false) (get_new.trans rfl)) ?_
    have e6:Nat.gcd (t.natAbs % g) g=Nat.gcd t.natAbs g:=by rw [←Nat.gcd_rec,Nat.gcd_comm]
    rw [e6]
    have hh:0<Nat.gcd t.natAbs g:=Nat.gcd_pos_of_pos_right _ hg
    have hhl:Nat.gcd t.natAbs g≤g:=Nat.le_of_dvd hg (Nat.gcd_dvd_right _ _)
    have i2:=c_i64 (d:=Nat.gcd t.natAbs g) (by omega)
    have hD2:=hD (Nat.gcd t.natAbs g) hh (by omega)
    have b5:d2 / Nat.gcd t.natAbs g≤d2:=Nat.div_le_self _ _
    have b6:t.natAbs / Nat.gcd t.natAbs g≤t.natAbs:=Nat.div_le_self _ _
    have w5:=z_quo (a:=d2) (g:=Nat.gcd t.natAbs g) (m:=0) (by omega) (by omega)
    rw [show ((d2:Int).tdiv (Nat.gcd t.natAbs g))=(d2 / Nat.gcd t.natAbs g:Nat) from rfl] at w5
    generalize Nat.gcd t.natAbs g=h at *
    generalize hx3:d2 / h=x3 at *
    simp (disch:=(first|omega|(simp only [qbf]<;>omega)|(simp only [qbd];done)|rfl)) only [zA,zB,zC,zD,zF,zG,zH,Nat.reduceEqDiff,Nat.reduceLT,Nat.reduceLeDiff,↓reduceIte,i1,i2,w3,w5]
    rw [ed]
    refine FZ.use (rover_c (by omega) hh hD2) ?_
    simp (disch:=(first|omega|(simp only [qbf]<;>omega)|(simp only [qbd];done)|rfl)) only [zA,zB,zC,zD,zF,zG,zH,Nat.reduceEqDiff,Nat.reduceLT,Nat.reduceLeDiff,↓reduceIte]
    refine FZ.use (qqc (by omega) (by omega)) ?_
    simp (disch:=(first|omega|(simp only [qbf]<;>omega)|(simp only [qbd];done)|rfl)) only [zA,zB,zC,zD,zF,zG,zH,Nat.reduceEqDiff,Nat.reduceLT,Nat.reduceLeDiff,↓reduceIte]
    have sg:(!(decide (((x1:Nat):Int)<0) == decide (((x3:Nat):Int)<0)))=false:=by
      rw [qks,decide_eq_false]
      omega
    have s2:((x1:Nat):Int).natAbs*((x3:Nat):Int).natAbs=x1*x3:=rfl
    rw [sg,s2]
    have B5:x1*x3<340282366920938463463374607431768211456:=Nat.lt_of_le_of_lt (Nat.mul_le_mul (m₂:=4611686018427387904) (n₂:=4611686018427387904) (by omega) (by omega)) (by decide)
    refine FZ.use (rmade_c (by omega) B5) ?_
    have hm:=qq3 (b:=s) (n:=t.natAbs / h) (d:=x1*x3) (a:=n1*d2+n2*d1) (m:=d1*d2) (by rw [←hR.1,hs];simp only [decide_eq_true_eq]) hR.2
    rw [hm]
    unfold finF
    by_cases hsz:(rN (n1*d2+n2*d1) (d1*d2)).natAbs≤4611686018427387904∧rD (n1*d2+n2*d1) (d1*d2)≤4611686018427387904
    · rw [if_pos hsz]
      simp (disch:=(first|omega|(simp only [qbf]<;>omega)|(simp only [qbd];done)|rfl)) only [zA,zB,zC,zD,zF,zG,zH,Nat.reduceEqDiff,Nat.reduceLT,Nat.reduceLeDiff,↓reduceIte]
      unfold frv
      rw [stB2 rfl rfl]
      simp (disch:=(first|omega|(simp only [qbf]<;>omega)|(simp only [qbd];done)|rfl)) only [zA,zB,zC,zD,zF,zG,zH,Nat.reduceEqDiff,Nat.reduceLT,Nat.reduceLeDiff,↓reduceIte]
      exact Pre.new _ _
    · rw [if_neg hsz]
      simp (disch:=(first|omega|(simp only [qbf]<;>omega)|(simp only [qbd];done)|rfl)) only [zA,zB,zC,zD,zF,zG,zH,Nat.reduceEqDiff,Nat.reduceLT,Nat.reduceLeDiff,↓reduceIte]
      unfold frv
      rw [stB2 rfl rfl]
      simp (disch:=(first|omega|(simp only [qbf]<;>omega)|(simp only [qbd];done)|rfl)) only [zA,zB,zC,zD,zF,zG,zH,Nat.reduceEqDiff,Nat.reduceLT,Nat.reduceLeDiff,↓reduceIte]
      exact Pre.new _ _
def divF (n1:Int) (d1:Nat) (n2:Int) (d2:Nat):Value:=if n2=0 then .tuple [frv 0 0,nv 3].toArray else finF (if n2<0 then n1 * -(d2:Int) else n1*d2) (d1*n2.natAbs)
theorem divF_clo:clo (divF n1 d1 n2 d2)=true:=by
  unfold divF;split
  · simp [clo,ground,scal,frv]
  · exact finF_clo
theorem rdiv_c (h1:FrOK n1 d1) (h2:FrOK n2 d2):FN Tryz.prog 165 [frv n1 d1,frv n2 d2] H (fun r H'=>r=divF n1 d1 n2 d2∧H'=H):=by
  refine FN.pre0d (g165_of ?_) divF_clo
  unfold g165
  obtain⟨p2,l2,k2,c2⟩:=h2
  have e1:xbin .eql 0 (zv n2) (nv 0)=some (.bool (decide (n2=0))):=by
    simp only [xbin,if_true];congr 2
  have e2:xbin .lss 0 (zv n2) (nv 0)=some (.bool (decide (n2<0))):=by simp [xbin]
  have ea:qbn (frv n1 d1)=[zv n1,zv d1]:=rfl
  have eb:qbn (frv n2 d2)=[zv n2,zv d2]:=rfl
  have ef:Value.agg [zv n1,zv d1].toArray=frv n1 d1:=rfl
  have hf0:(qbv [nv 0,nv 0] [] [])=some [nv 0,nv 0]:=rfl
  have hf:∀ x y:Int,(qbv [nv 0,nv 0] [(0,1),(1,1)] [zv x,zv y])=some [zv x,zv y]:=fun x y=>rfl
  unfold divF
  by_cases z:n2=0
  · rw [decide_eq_true z] at e1
    rw [if_pos (c:=n2=0) z]
    simp (disch:=(first|omega|(simp only [qbf]<;>omega)|(simp only [qbd];done)|rfl)) only [zA,zB,zC,zD,zF,zG,zH,Nat.reduceEqDiff,Nat.reduceLT,Nat.reduceLeDiff,↓reduceIte,ea,eb,e1,hf0]
    rw [stB2 rfl rfl]
    simp (disch:=(first|omega|(simp only [qbf]<;>omega)|(simp only [qbd];done)|rfl)) only [zA,zB,zC,zD,zF,zG,zH,Nat.reduceEqDiff,Nat.reduceLT,Nat.reduceLeDiff,↓reduceIte]
    exact⟨Pre.new _ _,rfl⟩
  · rw [decide_eq_false z] at e1
    rw [if_neg (c:=n2=0) z]
    have hc:Nat.gcd d2 n2.natAbs=1:=by rw [Nat.gcd_comm];exact c2
    by_cases hn:n2<0
    · rw [decide_eq_true hn] at e2
      rw [if_pos (c:=n2<0) hn]
      have g1:eun .neg (zv d2)=some (zv (-(d2:Int))):=by
        rw [qrv,wrapI (by omega) (by omega),Int.zero_sub]
      have g2:eun .neg (zv n2)=some (zv n2.natAbs):=by
        rw [qrv,wrapI (by omega) (by omega),show 0-n2=(n2.natAbs:Int) by omega]
      simp (disch:=(first|omega|(simp only [qbf]<;>omega)|(simp only [qbd];done)|rfl)) only [zA,zB,zC,zD,zF,zG,zH,Nat.reduceEqDiff,Nat.reduceLT,Nat.reduceLeDiff,↓reduceIte,ea,eb,e1,e2,g1,g2,hf]
      have hM:=rmul_c (n1:=n1) (d1:=d1) (n2:=-(d2:Int)) (d2:=n2.natAbs) (H:=H++[AB.cells [zv n1,zv d1] 70 none false,AB.cells [zv n2,zv d2] 70 none false,AB.cells [nv 0,nv 0] 70 none false]) h1 ⟨by omega,by omega,by omega,by rw [Int.natAbs_neg];exact hc⟩
      unfold frv at hM
      refine FZ.use hM ?_
      unfold finF
      by_cases hsz:(rN (n1 * -(d2:Int)) (d1*n2.natAbs)).natAbs≤4611686018427387904∧rD (n1 * -(d2:Int)) (d1*n2.natAbs)≤4611686018427387904
      · rw [if_pos hsz]
        simp (disch:=(first|omega|(simp only [qbf]<;>omega)|(simp only [qbd];done)|rfl)) only [zA,zB,zC,zD,zF,zG,zH,Nat.reduceEqDiff,Nat.reduceLT,Nat.reduceLeDiff,↓reduceIte]
        unfold frv
        rw [stB2 rfl rfl]
        simp (disch:=(first|omega|(simp only [qbf]<;>omega)|(simp only [qbd];done)|rfl)) only [zA,zB,zC,zD,zF,zG,zH,Nat.reduceEqDiff,Nat.reduceLT,Nat.reduceLeDiff,↓reduceIte]
        exact Pre.new _ _
      · rw [if_neg hsz]
        simp (disch:=(first|omega|(simp only [qbf]<;>omega)|(simp only [qbd];done)|rfl)) only [zA,zB,zC,zD,zF,zG,zH,Nat.reduceEqDiff,Nat.reduceLT,Nat.reduceLeDiff,↓reduceIte]
        unfold frv
        rw [stB2 rfl rfl]
        simp (disch:=(first|omega|(simp only [qbf]<;>omega)|(simp only [qbd];done)|rfl)) only [zA,zB,zC,zD,zF,zG,zH,Nat.reduceEqDiff,Nat.reduceLT,Nat.reduceLeDiff,↓reduceIte]
        exact Pre.new _ _
    · rw [decide_eq_false hn] at e2
      rw [if_neg (c:=n2<0) hn]
      have gneg:n2=(n2.natAbs:Int):=by omega
      simp (disch:=(first|omega|(simp only [qbf]<;>omega)|(simp only [qbd];done)|rfl)) only [zA,zB,zC,zD,zF,zG,zH,Nat.reduceEqDiff,Nat.reduceLT,Nat.reduceLeDiff,↓reduceIte,ea,eb,e1,e2,hf]
      have hM:=rmul_c (n1:=n1) (d1:=d1) (n2:=(d2:Int)) (d2:=n2.natAbs) (H:=H++[AB.cells [zv n1,zv d1] 70 none false,AB.cells [zv n2,zv d2] 70 none false,AB.cells [nv 0,nv 0] 70 none false]) h1 ⟨by omega,by omega,by omega,by rw [Int.natAbs_natCast];exact hc⟩
      unfold frv at hM
      rw [←gneg] at hM
      refine FZ.use hM ?_
      unfold finF
      by_cases hsz:(rN (n1*(d2:Int)) (d1*n2.natAbs)).natAbs≤4611686018427387904∧rD (n1*(d2:Int)) (d1*n2.natAbs)≤4611686018427387904
      · rw [if_pos hsz]
        simp (disch:=(first|omega|(simp only [qbf]<;>omega)|(simp only [qbd];done)|rfl)) only [zA,zB,zC,zD,zF,zG,zH,Nat.reduceEqDiff,Nat.reduceLT,Nat.reduceLeDiff,↓reduceIte]
        unfold frv
        rw [stB2 rfl rfl]
        simp (disch:=(first|omega|(simp only [qbf]<;>omega)|(simp only [qbd];done)|rfl)) only [zA,zB,zC,zD,zF,zG,zH,Nat.reduceEqDiff,Nat.reduceLT,Nat.reduceLeDiff,↓reduceIte]
        exact Pre.new _ _
      · rw [if_neg hsz]
        simp (disch:=(first|omega|(simp only [qbf]<;>omega)|(simp only [qbd];done)|rfl)) only [zA,zB,zC,zD,zF,zG,zH,Nat.reduceEqDiff,Nat.reduceLT,Nat.reduceLeDiff,↓reduceIte]
        unfold frv
        rw [stB2 rfl rfl]
        simp (disch:=(first|omega|(simp only [qbf]<;>omega)|(simp only [qbd];done)|rfl)) only [zA,zB,zC,zD,zF,zG,zH,Nat.reduceEqDiff,Nat.reduceLT,Nat.reduceLeDiff,↓reduceIte]
        exact Pre.new _ _
theorem fvalid_c {n d:Int} (hn:-9223372036854775808≤n∧n<9223372036854775808) (hd:-9223372036854775808≤d∧d<9223372036854775808):FN Tryz.prog 160 [frv n d] H (fun r H'=>r=.bool (decide (1≤d∧d≤4611686018427387904∧-4611686018427387904≤n∧n≤4611686018427387904∧Nat.gcd n.natAbs d.natAbs=1))∧H'=H):=by
  refine FN.pre0' (g160_of ?_) rfl
  unfold g160
  have ea:qbn (frv n d)=[zv n,zv d]:=rfl
  have e1:xbin .geq 0 (zv d) (nv 1)=some (.bool (decide (1≤d))):=by simp [xbin]
  have e2:xbin .leq 0 (zv d) (nv 4611686018427387904)=some (.bool (decide (d≤4611686018427387904))):=by simp [xbin]
  have e3:xbin .geq 0 (zv n) (.int .i64 (-4611686018427387904))=some (.bool (decide (-4611686018427387904≤n))):=by simp [xbin]
  have e4:xbin .leq 0 (zv n) (nv 4611686018427387904)=some (.bool (decide (n≤4611686018427387904))):=by simp [xbin]
  by_cases h1:1≤d
  · rw [decide_eq_true h1] at e1
    by_cases h2:d≤4611686018427387904
    · rw [decide_eq_true h2] at e2
      by_cases h3:-4611686018427387904≤n
      · rw [decide_eq_true h3] at e3
        by_cases h4:n≤4611686018427387904
        · rw [decide_eq_true h4] at e4
          have hdd:d=(d.natAbs:Int):=by omega
          have u1:=c_u64 (d:=d.natAbs) (by omega)
          rw [←hdd] at u1
          simp (disch:=(first|omega|(simp only [qbf]<;>omega)|(simp only [qbd];done)|rfl)) only [zA,zB,zC,zD,zF,zG,zH,Nat.reduceEqDiff,Nat.reduceLT,Nat.reduceLeDiff,↓reduceIte,ea,e1,e2,e3,e4,u1]
          refine FZ.use (abs_c (by omega) (by omega)) ?_
          simp (disch:=(first|omega|(simp only [qbf]<;>omega)|(simp only [qbd];done)|rfl)) only [zA,zB,zC,zD,zF,zG,zH,Nat.reduceEqDiff,Nat.reduceLT,Nat.reduceLeDiff,↓reduceIte,u1]
          refine FZ.use (gcd_c (a:=n.natAbs) (b:=d.natAbs) (e:=176) (op:=none) (r:=false) (get_new.trans rfl)) ?_
          have e5:xbin .eql 0 (uw (Nat.gcd n.natAbs d.natAbs)) (.int .u64 1)=some (.bool (decide (Nat.gcd n.natAbs d.natAbs=1))):=u_eql (b:=1)
          simp (disch:=(first|omega|(simp only [qbf]<;>omega)|(simp only [qbd];done)|rfl)) only [zA,zB,zC,zD,zF,zG,zH,Nat.reduceEqDiff,Nat.reduceLT,Nat.reduceLeDiff,↓reduceIte,e5]
          refine⟨Pre.new _ _,?_⟩
          congr 1
          rw [decide_eq_decide]
          constructor
          · intro h;exact⟨h1,h2,h3,h4,h⟩
          · rintro⟨_,_,_,_,h⟩;exact h
        · rw [decide_eq_false h4] at e4
          simp (disch:=(first|omega|(simp only [qbf]<;>omega)|(simp only [qbd];done)|rfl)) only [zA,zB,zC,zD,zF,zG,zH,Nat.reduceEqDiff,Nat.reduceLT,Nat.reduceLeDiff,↓reduceIte,ea,e1,e2,e3,e4]
          refine⟨Pre.new _ _,?_⟩
          rw [decide_eq_false];rintro⟨_,_,_,h,_⟩;exact h4 h
      · rw [decide_eq_false h3] at e3
        simp (disch:=(first|omega|(simp only [qbf]<;>omega)|(simp only [qbd];done)|rfl)) only [zA,zB,zC,zD,zF,zG,zH,Nat.reduceEqDiff,Nat.reduceLT,Nat.reduceLeDiff,↓reduceIte,ea,e1,e2,e3]
        refine⟨Pre.new _ _,?_⟩
        rw [decide_eq_false];rintro⟨_,_,h,_⟩;exact h3 h
    · rw [decide_eq_false h2] at e2
      simp (disch:=(first|omega|(simp only [qbf]<;>omega)|(simp only [qbd];done)|rfl)) only [zA,zB,zC,zD,zF,zG,zH,Nat.reduceEqDiff,Nat.reduceLT,Nat.reduceLeDiff,↓reduceIte,ea,e1,e2]
      refine⟨Pre.new _ _,?_⟩
      rw [decide_eq_false];rintro⟨_,h,_⟩;exact h2 h
  · rw [decide_eq_false h1] at e1
    simp (disch:=(first|omega|(simp only [qbf]<;>omega)|(simp only [qbd];done)|rfl)) only [zA,zB,zC,zD,zF,zG,zH,Nat.reduceEqDiff,Nat.reduceLT,Nat.reduceLeDiff,↓reduceIte,ea,e1]
    refine⟨Pre.new _ _,?_⟩
    rw [decide_eq_false];rintro⟨h,_⟩;exact h1 h
end
end Go.Sim
