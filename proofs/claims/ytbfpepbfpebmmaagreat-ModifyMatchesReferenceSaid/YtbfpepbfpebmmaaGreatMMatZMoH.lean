/- Part of the proof: ZMoH. -/
import Derived.Test.YtbfpepbfpebmmaaGreatMMatShSToXfS
import Derived.Test.YtbfpepbfpebmmaaGreatMMatShD
import Derived.Test.YtbfpepbfpebmmaaGreatMMatZShMixToZPfFieldI
import Derived.KernelRfl
set_option linter.all false
set_option maxRecDepth 100000
namespace Go.Sim
open Go Go.Proofs
local instance coZMoH:Coe AH Value:=⟨fun H=>.pointer (some ⟨H.length,0,none⟩)⟩
def g178 (s0 i1 j2:Value) (H:AH) (R:Value→AH→Prop):Prop:=
 @qbb (qbc .lenS [s0]) ⟨fun v12 =>
 @qbb (qbc (.sl3 1) [s0,i1,j2,v12]) ⟨fun v13 =>
 @qbb (xbin .eql 0 i1 j2) ⟨fun v16 =>
 @qbv v16 ⟨fun q=>if q=true then R s0 H else
 @qbb (qbc .lenS [s0]) ⟨fun v19 =>
 @qbb (qbc (.slS 1 false true) [s0,i1]) ⟨fun v22 =>
 @qbb (qbc (.slS 1 true false) [s0,j2]) ⟨fun v25 =>
 @qbn (xact (.app 3 1 8) H [v22,v25]) ⟨fun v26 H1 =>
 @qbb (qbc .lenS [v26]) ⟨fun v29 =>
 @qbb (qbc (.slS 1 true true) [v26,v29,v19]) ⟨fun v31 =>
 @qbn (xact (.clr [nv 0]) H1 [v31]) ⟨fun _v H2 =>
 R v26 H2⟩⟩⟩⟩⟩⟩⟩⟩⟩⟩⟩
theorem g178_of {s0 i1 j2:Value} {H:AH} {R:Value→AH→Prop} (h:g178 s0 i1 j2 H R):FN Tryz.prog 178 [s0,i1,j2] H R:=
  FN.of_XM (ms:=[]) qbt (cast (by kernel_rfl) h)
def g180 (s0 i1 j2:Value) (H:AH) (R:Value→AH→Prop):Prop:=
 @qbb (qbc .lenS [s0]) ⟨fun v12 =>
 @qbb (qbc (.sl3 1) [s0,i1,j2,v12]) ⟨fun v13 =>
 @qbb (xbin .eql 0 i1 j2) ⟨fun v16 =>
 @qbv v16 ⟨fun q=>if q=true then R s0 H else
 @qbb (qbc .lenS [s0]) ⟨fun v19 =>
 @qbb (qbc (.slS 1 false true) [s0,i1]) ⟨fun v22 =>
 @qbb (qbc (.slS 1 true false) [s0,j2]) ⟨fun v25 =>
 @qbn (xact (.app 31 1 24) H [v22,v25]) ⟨fun v26 H1 =>
 @qbb (qbc .lenS [v26]) ⟨fun v29 =>
 @qbb (qbc (.slS 1 true true) [v26,v29,v19]) ⟨fun v31 =>
 @qbn (xact (.clr [.slice none 0 0]) H1 [v31]) ⟨fun _v H2 =>
 R v26 H2⟩⟩⟩⟩⟩⟩⟩⟩⟩⟩⟩
theorem g180_of {s0 i1 j2:Value} {H:AH} {R:Value→AH→Prop} (h:g180 s0 i1 j2 H R):FN Tryz.prog 180 [s0,i1,j2] H R:=
  FN.of_XM (ms:=[]) qbt (cast (by kernel_rfl) h)
end Go.Sim
