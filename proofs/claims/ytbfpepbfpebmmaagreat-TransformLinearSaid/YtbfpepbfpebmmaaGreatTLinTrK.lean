/- Part of the proof: TrK. -/
import Derived.Test.YtbfpepbfpebmmaaGreatTLinTrP
set_option linter.all false
namespace Go.Sim.Kr
def mulL (a:Int):Int→List Int→List Int
  | p,[]=>[a*p]
  | p,x :: l=>(x+a*p) :: mulL a x l
theorem qqz (a p:Int) (l:List Int):(mulL a p l).getD 0 0=l.getD 0 0+a*p:=by
  cases l<;>simp [mulL]
theorem mulL_succ (a:Int):∀ (l:List Int) (p:Int) (k:Nat),(mulL a p l).getD (k+1) 0=l.getD (k+1) 0+a*l.getD k 0:=by
  intro l
  induction l with
  | nil=>intro p k;simp [mulL]
  | cons x l ih =>
    intro p k
    cases k with
    | zero=>show (mulL a x l).getD 0 0=_;rw [qqz];rfl
    | succ k=>show (mulL a x l).getD (k+1) 0=_;rw [ih];rfl
def kRow (q:Nat):Nat→Nat→List Int
  | 0,_=>[1]
  | n+1,0=>mulL (q-1) 0 (kRow q n 0)
  | n+1,i+1=>mulL (-1) 0 (kRow q n i)
theorem Kz_row (q:Nat):∀ n k i,Kz q n k i=(kRow q n i).getD k 0:=by
  intro n
  induction n with
  | zero =>
    intro k i
    cases k with
    | zero=>rw [qht];rfl
    | succ k=>rw [Kz.eq_2];rfl
  | succ n ih =>
    intro k i
    cases k with
    | zero =>
      have h:=ih 0 (i-1)
      have h':=ih 0 0
      rw [qht] at h h'
      cases i with
      | zero=>rw [qht,kRow,qqz,←h'];simp
      | succ i=>rw [qht,kRow,qqz,←show 1=(kRow q n i).getD 0 0 from h];simp
    | succ k =>
      cases i with
      | zero=>rw [Kz.eq_3,kRow,mulL_succ,ih,ih]
      | succ i=>rw [Kz.eq_4,kRow,mulL_succ,ih,ih];omega
def allB:Nat→(Nat→Bool)→Bool
  | 0,_=>true
  | n+1,p=>allB n p && p n
theorem qc0 {n:Nat} {p:Nat→Bool} (h:allB n p=true):∀ i,i<n→p i=true:=by
  induction n with
  | zero=>intro i hi;omega
  | succ n ih =>
    simp only [allB,Bool.and_eq_true] at h
    intro i hi
    by_cases e:i=n
    · subst e;exact h.2
    · exact ih h.1 i (by omega)
def chS (n:Nat):Nat→Nat
  | 0=>1
  | i+1=>chS n i*(n-i) / (i+1)
def chF (n k:Nat):Nat:=if n<k then 0 else chS n (min k (n-k))
def trm (q n k i j:Nat):Int:=(if j % 2=1 then -1 else 1)*(((q-1) ^ (k-j)*chF i j*chF (n-i) (k-j):Nat):Int)
def Kc (q n k i:Nat):Int:=sm (min k i+1-(k-(n-i))) fun t=>trm q n k i (k-(n-i)+t)
def small (z:Int):Bool:=decide (-4611686018427387904<z) && decide (z<4611686018427387904)
end Go.Sim.Kr
