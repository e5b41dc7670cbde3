/- Part of the proof: TrP. -/
set_option linter.all false
namespace Go.Sim.Kr
def sm:Nat→(Nat→Int)→Int
  | 0,_=>0
  | m+1,f=>sm m f+f m
theorem qbz {m:Nat} {f g:Nat→Int} (h:∀ i,i<m→f i=g i):sm m f=sm m g:=by
  induction m with
  | zero=>rfl
  | succ m ih=>simp only [sm];rw [ih fun i hi=>h i (by omega),h m (by omega)]
theorem qqf (m:Nat):sm m (fun _=>0)=0:=by
  induction m with
  | zero=>rfl
  | succ m ih=>simp only [sm,ih];rfl
theorem qj7 (m:Nat) (f g:Nat→Int):sm m (fun i=>f i+g i)=sm m f+sm m g:=by
  induction m with
  | zero=>rfl
  | succ m ih=>simp only [sm,ih];omega
theorem sm_mul (m:Nat) (a:Int) (f:Nat→Int):sm m (fun i=>a*f i)=a*sm m f:=by
  induction m with
  | zero=>simp [sm]
  | succ m ih=>simp only [sm,ih,Int.mul_add]
theorem sm_comm (m k:Nat) (f:Nat→Nat→Int):sm m (fun i=>sm k fun j=>f i j)=sm k (fun j=>sm m fun i=>f i j):=by
  induction m with
  | zero=>simp only [sm];exact (qqf k).symm
  | succ m ih=>simp only [sm,ih];rw [←qj7]
theorem qj6 (m:Nat) (a:Int):sm m (fun _=>a)=m*a:=by
  induction m with
  | zero=>simp [sm]
  | succ m ih=>simp only [sm,ih];rw [Int.natCast_succ,Int.add_mul,Int.one_mul]
theorem sm_ite (m j:Nat) (a:Int):sm m (fun i=>if j=i then a else 0)=if j<m then a else 0:=by
  induction m with
  | zero=>rfl
  | succ m ih =>
    simp only [sm,ih]
    by_cases h:j=m
    · subst h;simp
    · have:(j<m+1)=(j<m):=by apply propext;omega
      simp [h,this]
def up (u:Nat→Nat) (n a:Nat):Nat→Nat:=fun c=>if c=n then a else u c
def SW (q:Nat):Nat→((Nat→Nat)→Int)→Int
  | 0,f=>f fun _=>0
  | n+1,f=>sm q fun a=>SW q n fun u=>f (up u n a)
def Pd:Nat→(Nat→Int)→Int
  | 0,_=>1
  | n+1,p=>Pd n p*p n
theorem qdb {q n:Nat} {f g:(Nat→Nat)→Int} (h:∀ u,(∀ c,c<n→u c<q)→f u=g u):SW q n f=SW q n g:=by
  induction n generalizing f g with
  | zero=>exact h _ fun c hc=>absurd hc (Nat.not_lt_zero _)
  | succ n ih =>
    simp only [SW]
    refine qbz fun a ha=>ih fun u hu=>h _ ?_
    intro c hc
    unfold up
    by_cases e:c=n
    · simp [e,ha]
    · simp [e];exact hu c (by omega)
theorem SW_zero (q n:Nat):SW q n (fun _=>0)=0:=by
  induction n with
  | zero=>rfl
  | succ n ih=>simp only [SW,ih];exact qqf q
theorem SW_add (q n:Nat) (f g:(Nat→Nat)→Int):SW q n (fun u=>f u+g u)=SW q n f+SW q n g:=by
  induction n generalizing f g with
  | zero=>rfl
  | succ n ih=>simp only [SW,ih];exact qj7 _ _ _
theorem SW_mul (q n:Nat) (a:Int) (f:(Nat→Nat)→Int):SW q n (fun u=>a*f u)=a*SW q n f:=by
  induction n generalizing f with
  | zero=>rfl
  | succ n ih=>simp only [SW,ih];exact sm_mul _ _ _
theorem SW_mul' (q n:Nat) (a:Int) (f:(Nat→Nat)→Int):SW q n (fun u=>f u*a)=SW q n f*a:=by
  rw [Int.mul_comm,←SW_mul];exact qdb fun u _=>Int.mul_comm _ _
theorem SW_sm (q n m:Nat) (f:Nat→(Nat→Nat)→Int):SW q n (fun u=>sm m fun i=>f i u)=sm m (fun i=>SW q n (f i)):=by
  induction n generalizing f with
  | zero=>rfl
  | succ n ih =>
    simp only [SW,ih]
    exact sm_comm q m fun a i=>SW q n fun u=>f i (up u n a)
def Ext (n:Nat) (f:(Nat→Nat)→Int):Prop:=∀ u u',(∀ c,c<n→u c=u' c)→f u=f u'
theorem Pd_congr {n:Nat} {f g:Nat→Int} (h:∀ i,i<n→f i=g i):Pd n f=Pd n g:=by
  induction n with
  | zero=>rfl
  | succ m ih=>simp only [Pd];rw [ih fun i hi=>h i (by omega),h m (by omega)]
theorem Pd_zero {n i:Nat} {f:Nat→Int} (hi:i<n) (h:f i=0):Pd n f=0:=by
  induction n with
  | zero=>omega
  | succ n ih =>
    simp only [Pd]
    by_cases e:i=n
    · subst e;rw [h,Int.mul_zero]
    · rw [ih (by omega),Int.zero_mul]
theorem Pd_one {n:Nat} {f:Nat→Int} (h:∀ i,i<n→f i=1):Pd n f=1:=by
  induction n with
  | zero=>rfl
  | succ n ih=>simp only [Pd];rw [ih fun i hi=>h i (by omega),h n (by omega)];rfl
theorem SW_Pd (q n:Nat) (h:Nat→Nat→Int):SW q n (fun u=>Pd n fun c=>h c (u c))=Pd n fun c=>sm q (h c):=by
  induction n with
  | zero=>rfl
  | succ n ih =>
    simp only [SW,Pd]
    rw [←ih,←sm_mul]
    refine qbz fun a _=>?_
    rw [←SW_mul']
    refine qdb fun u _=>?_
    have e:Pd n (fun c=>h c (up u n a c))=Pd n fun c=>h c (u c):=by
      refine Pd_congr fun c hc=>?_
      unfold up
      simp [show c≠n by omega]
    rw [e];simp [up]
def pc (n:Nat) (s:Nat→Nat):Nat:=match n with
  | 0=>0
  | n+1=>pc n s+if s n=1 then 1 else 0
def Kz (q:Nat):Nat→Nat→Nat→Int
  | _,0,_=>1
  | 0,_+1,_=>0
  | n+1,k+1,0=>Kz q n (k+1) 0+(q-1)*Kz q n k 0
  | n+1,k+1,i+1=>Kz q n (k+1) i-Kz q n k i
theorem qht (q n i:Nat):Kz q n 0 i=1:=by unfold Kz;rfl
theorem Kz_far (q n k:Nat):∀ i,i≤n→Kz q (n+1) (k+1) i=Kz q n (k+1) i+(q-1)*Kz q n k i:=by
  induction n generalizing k with
  | zero => intro i hi;obtain rfl:i=0:=by omega
            rw [Kz.eq_3]
  | succ n ih =>
    intro i hi
    cases i with
    | zero=>rw [Kz]
    | succ i =>
      rw [Kz,ih k i (by omega),Kz.eq_4 q n k i]
      cases k with
      | zero=>simp only [qht];omega
      | succ k =>
        rw [ih k i (by omega),Kz.eq_4 q n k i,Int.mul_sub]
        omega
def far (n:Nat) (x y:Nat→Nat):Nat:=match n with
  | 0=>0
  | n+1=>far n x y+if x n=y n then 0 else 1
theorem far_le (n:Nat) (x y:Nat→Nat):far n x y≤n:=by
  induction n with
  | zero=>exact Nat.le_refl _
  | succ n ih=>simp only [far];split<;>omega
end Go.Sim.Kr
