/- Part of the proof: MpF. -/
import Derived.Test.YtbfpepbfpebmmaaGreatMMatZSpX1ToMpC
import Derived.Test.YtbfpepbfpebmmaaGreatMMatMoTToMoN
set_option linter.all false
namespace Go.Sim
open Go Go.Proofs
section
variable {α:Type} [Fl α] [DecidableEq α] {cd:α→Nat} {p e b c q:Nat} {blk:AB} {H:AH}
theorem dec_ex (F:FOK α cd p e b c q blk):∃ dec:Nat→α,∀ d,d<q→cd (dec d)=d:=by
  refine⟨fun d=>if h:d<q then Classical.choose (F.sur d h) else Fl.zero,fun d hd=>?_⟩
  simp only [dif_pos hd]
  exact Classical.choose_spec (F.sur d hd)
end
end Go.Sim
