/- Part of the proof: ShS, ShF, XfS. -/
import Derived.Test.YtbfpepbfpebmmaaGreatTLinSimSTToShC
import Derived.Test.YtbfpepbfpebmmaaGreatTLinSimOToSimV
set_option linter.all false
namespace Go.Sim
open Go
theorem qbf:(type_of% @List.length_map.{0,0})∧(type_of% @List.length_set.{0})∧(type_of% @List.length_replicate.{0})∧(type_of% @List.length_append.{0})∧(type_of% @List.length_cons.{0})∧(type_of% @List.length_nil.{0}):=⟨@List.length_map.{0,0},@List.length_set.{0},@List.length_replicate.{0},@List.length_append.{0},@List.length_cons.{0},@List.length_nil.{0}⟩
theorem zA:type_of% shOwn:=shOwn
theorem zB:type_of% shMore:=shMore
theorem zC:type_of% stOwn:=stOwn
theorem zD:type_of% stNat:=stNat
theorem zE:type_of% stInt:=stInt
theorem zF:type_of% stList:=stList
theorem zG:type_of% stProp:=stProp
theorem zH:(type_of% @true_implies)∧(type_of% @false_implies)∧(type_of% @eq_self.{1})∧(type_of% @if_true.{1})∧(type_of% @if_false.{1})∧(type_of% @ne_eq.{1})∧(type_of% @cond_true.{1})∧(type_of% @cond_false.{1}):=⟨@true_implies,@false_implies,@eq_self.{1},@if_true.{1},@if_false.{1},@ne_eq.{1},@cond_true.{1},@cond_false.{1}⟩
end Go.Sim

namespace Go.Sim
open Go
abbrev fldv (p e:Nat) (b n c:Nat):Value:=.agg [nv p,nv e,.slice (some ⟨b,0,none⟩) n c].toArray
end Go.Sim

namespace Go.Sim
open Go
abbrev eS (j d:Nat) (x:XO) (xs:List Operand):XS:=⟨none,x,xs,some d,j,false,[]⟩
abbrev eN (j:Nat) (x:XO) (xs:List Operand):XS:=⟨none,x,xs,none,j,false,[]⟩
abbrev pT (t:Nat):Operand:=.tmp t
abbrev pC (v:Value):Operand:=.const v
end Go.Sim
