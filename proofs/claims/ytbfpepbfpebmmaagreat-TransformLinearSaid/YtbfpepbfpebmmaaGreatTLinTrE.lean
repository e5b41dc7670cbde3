/- Part of the proof: TrE. -/
import Derived.Test.YtbfpepbfpebmmaaGreatTLinTrP
set_option linter.all false
namespace Go.Sim.Kr
def vl (q:Nat) (n:Nat) (s x:Nat→Nat):Nat:=match n with
  | 0=>0
  | n+1=>if s n=1 then q*vl q n s x+x n else vl q n s x
def cn:Nat→(Nat→Bool)→Nat
  | 0,_=>0
  | m+1,p=>cn m p+if p m then 1 else 0
end Go.Sim.Kr
