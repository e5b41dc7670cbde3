/- Part of the proof: XfS. -/
import Derived.Test.YtgcoidbhikfdkaaPSimOToSimV
set_option linter.all false
namespace Go.Sim
open Go
abbrev eS (j d : Nat) (x : XO) (xs : List Operand) : XS := ⟨none, x, xs, some d, j, false, []⟩
abbrev eN (j : Nat) (x : XO) (xs : List Operand) : XS := ⟨none, x, xs, none, j, false, []⟩
abbrev pT (t : Nat) : Operand := .tmp t
abbrev pC (v : Value) : Operand := .const v
end Go.Sim
