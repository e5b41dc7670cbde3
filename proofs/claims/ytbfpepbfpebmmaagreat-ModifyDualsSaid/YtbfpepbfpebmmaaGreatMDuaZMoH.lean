/- Part of the proof: ZMoH. -/
import Derived.Test.YtbfpepbfpebmmaaGreatMDuaShSToXfS
import Derived.Test.YtbfpepbfpebmmaaGreatMDuaZShMixToZPfFieldI
import Derived.KernelRfl
set_option linter.all false
set_option maxRecDepth 100000
namespace Go.Sim
open Go Go.Proofs
def xd178:XD:=(.seq (.reg [yS 0 6 .mov [oC (.slice none 0 0)]]) (.seq (.reg [yS 0 8 .mov [oT 0],yS 1 9 .mov [oT 1],yS 2 10 .mov [oT 2],yS 3 11 .mov [oT 0],yS 4 12 .lenS [oT 11],yS 5 13 (.sl3 1) [oT 8,oT 9,oT 10,oT 12]]) (.seq (.seq (.reg [yS 0 14 .mov [oT 1],yS 1 15 .mov [oT 2],yS 2 16 (.bin .eql 0) [oT 14,oT 15]]) (.cond (oT 16) (.seq (.reg [yS 0 17 .mov [oT 0],yS 1 6 .mov [oT 17]]) .ret) .skip)) (.seq (.reg [yS 0 18 .mov [oT 0],yS 1 19 .lenS [oT 18],yS 2 7 .mov [oT 19]]) (.seq (.reg [yS 0 20 .mov [oT 0],yS 1 21 .mov [oT 1],yS 2 22 (.slS 1 false true) [oT 20,oT 21],yS 3 23 .mov [oT 0],yS 4 24 .mov [oT 2],yS 5 25 (.slS 1 true false) [oT 23,oT 24],yS 6 26 (.app 3 1 8) [oT 22,oT 25],yS 7 0 .mov [oT 26]]) (.seq (.reg [yS 0 27 .mov [oT 0],yS 1 28 .mov [oT 0],yS 2 29 .lenS [oT 28],yS 3 30 .mov [oT 7],yS 4 31 (.slS 1 true true) [oT 27,oT 29,oT 30],yN 5 (.clr [(nv 0)]) [oT 31]]) (.seq (.reg [yS 0 32 .mov [oT 0],yS 1 6 .mov [oT 32]]) .ret)))))))
theorem xd178_ok:compF Tryz.prog 178=some ⟨33,[(.tmp 6)],xd178.er⟩:=by kernel_rfl
def g178 (s0 i1 j2:Value) (H:AH) (R:Value→AH→Prop):Prop:=
 @bindO (xpure .lenS [s0]) ⟨fun v12 =>
 @bindO (xpure (.sl3 1) [s0,i1,j2,v12]) ⟨fun v13 =>
 @bindO (xbin .eql 0 i1 j2) ⟨fun v16 =>
 @condK v16 ⟨fun q=>if q=true then R s0 H else
 @bindO (xpure .lenS [s0]) ⟨fun v19 =>
 @bindO (xpure (.slS 1 false true) [s0,i1]) ⟨fun v22 =>
 @bindO (xpure (.slS 1 true false) [s0,j2]) ⟨fun v25 =>
 @bindP (xact (.app 3 1 8) H [v22,v25]) ⟨fun v26 H1 =>
 @bindO (xpure .lenS [v26]) ⟨fun v29 =>
 @bindO (xpure (.slS 1 true true) [v26,v29,v19]) ⟨fun v31 =>
 @bindP (xact (.clr [(nv 0)]) H1 [v31]) ⟨fun _v H2 =>
 R v26 H2⟩⟩⟩⟩⟩⟩⟩⟩⟩⟩⟩
theorem g178_of {s0 i1 j2:Value} {H:AH} {R:Value→AH→Prop} (h:g178 s0 i1 j2 H R):FN Tryz.prog 178 [s0,i1,j2] H R:=
  FN.of_XD mixed xd178_ok (by kernel_rfl) (Nat.le_of_ble_eq_true rfl) (cast (by kernel_rfl) h)
def xd180:XD:=(.seq (.reg [yS 0 6 .mov [oC (.slice none 0 0)]]) (.seq (.reg [yS 0 8 .mov [oT 0],yS 1 9 .mov [oT 1],yS 2 10 .mov [oT 2],yS 3 11 .mov [oT 0],yS 4 12 .lenS [oT 11],yS 5 13 (.sl3 1) [oT 8,oT 9,oT 10,oT 12]]) (.seq (.seq (.reg [yS 0 14 .mov [oT 1],yS 1 15 .mov [oT 2],yS 2 16 (.bin .eql 0) [oT 14,oT 15]]) (.cond (oT 16) (.seq (.reg [yS 0 17 .mov [oT 0],yS 1 6 .mov [oT 17]]) .ret) .skip)) (.seq (.reg [yS 0 18 .mov [oT 0],yS 1 19 .lenS [oT 18],yS 2 7 .mov [oT 19]]) (.seq (.reg [yS 0 20 .mov [oT 0],yS 1 21 .mov [oT 1],yS 2 22 (.slS 1 false true) [oT 20,oT 21],yS 3 23 .mov [oT 0],yS 4 24 .mov [oT 2],yS 5 25 (.slS 1 true false) [oT 23,oT 24],yS 6 26 (.app 31 1 24) [oT 22,oT 25],yS 7 0 .mov [oT 26]]) (.seq (.reg [yS 0 27 .mov [oT 0],yS 1 28 .mov [oT 0],yS 2 29 .lenS [oT 28],yS 3 30 .mov [oT 7],yS 4 31 (.slS 1 true true) [oT 27,oT 29,oT 30],yN 5 (.clr [(.slice none 0 0)]) [oT 31]]) (.seq (.reg [yS 0 32 .mov [oT 0],yS 1 6 .mov [oT 32]]) .ret)))))))
theorem xd180_ok:compF Tryz.prog 180=some ⟨33,[(.tmp 6)],xd180.er⟩:=by kernel_rfl
def g180 (s0 i1 j2:Value) (H:AH) (R:Value→AH→Prop):Prop:=
 @bindO (xpure .lenS [s0]) ⟨fun v12 =>
 @bindO (xpure (.sl3 1) [s0,i1,j2,v12]) ⟨fun v13 =>
 @bindO (xbin .eql 0 i1 j2) ⟨fun v16 =>
 @condK v16 ⟨fun q=>if q=true then R s0 H else
 @bindO (xpure .lenS [s0]) ⟨fun v19 =>
 @bindO (xpure (.slS 1 false true) [s0,i1]) ⟨fun v22 =>
 @bindO (xpure (.slS 1 true false) [s0,j2]) ⟨fun v25 =>
 @bindP (xact (.app 31 1 24) H [v22,v25]) ⟨fun v26 H1 =>
 @bindO (xpure .lenS [v26]) ⟨fun v29 =>
 @bindO (xpure (.slS 1 true true) [v26,v29,v19]) ⟨fun v31 =>
 @bindP (xact (.clr [(.slice none 0 0)]) H1 [v31]) ⟨fun _v H2 =>
 R v26 H2⟩⟩⟩⟩⟩⟩⟩⟩⟩⟩⟩
theorem g180_of {s0 i1 j2:Value} {H:AH} {R:Value→AH→Prop} (h:g180 s0 i1 j2 H R):FN Tryz.prog 180 [s0,i1,j2] H R:=
  FN.of_XD mixed xd180_ok (by kernel_rfl) (Nat.le_of_ble_eq_true rfl) (cast (by kernel_rfl) h)
end Go.Sim
