/- Part of the proof: ZMoH. -/
import Derived.Test.YtbfpepbfpebmmaaGreatMRepShSToXfS
import Derived.Test.YtbfpepbfpebmmaaGreatMRepZShMixToZPfFieldI
import Derived.KernelRfl
set_option linter.all false
set_option maxRecDepth 100000
namespace Go.Sim
open Go Go.Proofs
def xd178:XD:=(.seq (.reg [yS 0 6 .mov [oC (.slice none 0 0)]]) (.seq (.reg [yS 0 8 .mov [oT 0],yS 1 9 .mov [oT 1],yS 2 10 .mov [oT 2],yS 3 11 .mov [oT 0],yS 4 12 .lenS [oT 11],yS 5 13 (.sl3 1) [oT 8,oT 9,oT 10,oT 12]]) (.seq (.seq (.reg [yS 0 14 .mov [oT 1],yS 1 15 .mov [oT 2],yS 2 16 (.bin .eql 0) [oT 14,oT 15]]) (.cond (oT 16) (.seq (.reg [yS 0 17 .mov [oT 0],yS 1 6 .mov [oT 17]]) .ret) .skip)) (.seq (.reg [yS 0 18 .mov [oT 0],yS 1 19 .lenS [oT 18],yS 2 7 .mov [oT 19]]) (.seq (.reg [yS 0 20 .mov [oT 0],yS 1 21 .mov [oT 1],yS 2 22 (.slS 1 false true) [oT 20,oT 21],yS 3 23 .mov [oT 0],yS 4 24 .mov [oT 2],yS 5 25 (.slS 1 true false) [oT 23,oT 24],yS 6 26 (.app 3 1 8) [oT 22,oT 25],yS 7 0 .mov [oT 26]]) (.seq (.reg [yS 0 27 .mov [oT 0],yS 1 28 .mov [oT 0],yS 2 29 .lenS [oT 28],yS 3 30 .mov [oT 7],yS 4 31 (.slS 1 true true) [oT 27,oT 29,oT 30],yN 5 (.clr [(nv 0)]) [oT 31]]) (.seq (.reg [yS 0 32 .mov [oT 0],yS 1 6 .mov [oT 32]]) .ret)))))))
theorem xd178_ok:compF Tryz.prog 178=some ⟨33,[(.tmp 6)],xd178.er⟩:=by kernel_rfl
def xd180:XD:=(.seq (.reg [yS 0 6 .mov [oC (.slice none 0 0)]]) (.seq (.reg [yS 0 8 .mov [oT 0],yS 1 9 .mov [oT 1],yS 2 10 .mov [oT 2],yS 3 11 .mov [oT 0],yS 4 12 .lenS [oT 11],yS 5 13 (.sl3 1) [oT 8,oT 9,oT 10,oT 12]]) (.seq (.seq (.reg [yS 0 14 .mov [oT 1],yS 1 15 .mov [oT 2],yS 2 16 (.bin .eql 0) [oT 14,oT 15]]) (.cond (oT 16) (.seq (.reg [yS 0 17 .mov [oT 0],yS 1 6 .mov [oT 17]]) .ret) .skip)) (.seq (.reg [yS 0 18 .mov [oT 0],yS 1 19 .lenS [oT 18],yS 2 7 .mov [oT 19]]) (.seq (.reg [yS 0 20 .mov [oT 0],yS 1 21 .mov [oT 1],yS 2 22 (.slS 1 false true) [oT 20,oT 21],yS 3 23 .mov [oT 0],yS 4 24 .mov [oT 2],yS 5 25 (.slS 1 true false) [oT 23,oT 24],yS 6 26 (.app 31 1 24) [oT 22,oT 25],yS 7 0 .mov [oT 26]]) (.seq (.reg [yS 0 27 .mov [oT 0],yS 1 28 .mov [oT 0],yS 2 29 .lenS [oT 28],yS 3 30 .mov [oT 7],yS 4 31 (.slS 1 true true) [oT 27,oT 29,oT 30],yN 5 (.clr [(.slice none 0 0)]) [oT 31]]) (.seq (.reg [yS 0 32 .mov [oT 0],yS 1 6 .mov [oT 32]]) .ret)))))))
theorem xd180_ok:compF Tryz.prog 180=some ⟨33,[(.tmp 6)],xd180.er⟩:=by kernel_rfl
end Go.Sim
