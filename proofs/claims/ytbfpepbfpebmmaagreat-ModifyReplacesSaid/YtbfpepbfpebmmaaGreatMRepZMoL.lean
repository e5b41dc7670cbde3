/- Part of the proof: ZMoL. -/
import Derived.Test.YtbfpepbfpebmmaaGreatMRepShSToXfS
import Derived.Test.YtbfpepbfpebmmaaGreatMRepZShMixToZPfFieldI
import Derived.KernelRfl
set_option linter.all false
set_option maxRecDepth 100000
namespace Go.Sim
open Go Go.Proofs
def xd7:XD:=(.seq (.reg [yS 0 2 (.box 24) [oT 0],yS 1 3 (.box 24) [oT 1],yS 2 4 .mov [oC (.bool false)]]) (.seq (.reg [yS 0 17 .call [oF 11],yS 1 5 .mov [oT 17]]) (.seq (.seq (.reg [yS 0 18 .mov [oT 5],yS 1 19 (.un .not) [oT 18]]) (.cond (oT 19) (.seq (.reg [yS 0 4 .mov [oC (.bool false)]]) .ret) .skip)) (.seq (.reg [yS 0 20 (.ld (some 4)) [oT 2],yS 1 21 .call [oF 32,oT 20],yS 2 6 (.new [(nv 0),(nv 0),(.slice none 0 0)] 29) [],yN 3 (.st 3) [oT 6,oT 21]]) (.seq (.reg [yS 0 22 (.ld (some 4)) [oT 3],yS 1 23 .call [oF 33,oT 22],yS 2 7 (.new [(nv 0),(nv 0),(.slice none 0 0)] 29) [],yN 3 (.st 3) [oT 7,oT 23]]) (.seq (.reg [yS 0 24 (.ld (some 3)) [oT 6],yS 1 25 (.ld (some 3)) [oT 7],yS 2 26 .call [oF 26,oT 24,oT 25],yS 3 8 (.new [(nv 0),(nv 0),(.slice none 0 0),(nv 0)] 37) [],yN 4 (.st 4) [oT 8,oT 26]]) (.seq (.seq (.reg [yS 0 27 (.fld 3) [oT 8],yS 1 28 (.ld none) [oT 27],yS 2 29 (.bin .neq 0) [oT 28,oC (nv 0)],yS 3 30 .mov [oT 29],yG (some (30,false)) 4 (some 31) (.fld 0) [oT 8],yG (some (30,false)) 5 (some 32) (.ld (some 3)) [oT 31],yG (some (30,false)) 6 (some 33) .call [oF 41,oT 32],yG (some (30,false)) 7 (some 34) (.un .not) [oT 33],yS 8 35 .pick [oT 30,oC (.bool true),oT 34]]) (.cond (oT 35) (.seq (.reg [yS 0 4 .mov [oC (.bool false)]]) .ret) .skip)) (.seq (.reg [yS 0 36 (.ld (some 3)) [oT 6],yS 1 37 .call [oF 39,oT 36],yS 2 9 .mov [oT 37]]) (.seq (.seq (.reg [yS 0 38 (.fld 0) [oT 8],yS 1 39 (.ld (some 3)) [oT 38],yS 2 40 .call [oF 42,oT 39],yS 3 41 .mov [oT 9],yS 4 42 .lenS [oT 41],yS 5 43 (.bin .neq 0) [oT 40,oT 42]]) (.cond (oT 43) (.seq (.reg [yS 0 4 .mov [oC (.bool false)]]) .ret) .skip)) (.seq (.seq (.reg [yS 0 10 .mov [oC (nv 0)]]) (.block 0 (.loop [10] 1298074214633706907115031896390672 (.seq (.seq (.reg [yS 0 44 .mov [oT 10],yS 1 45 .mov [oT 9],yS 2 46 .lenS [oT 45],yS 3 47 (.bin .lss 0) [oT 44,oT 46]]) (.cond (oT 47) .skip (.exit 0))) (.seq (.block 1 (.seq (.reg [yS 0 50 (.ld (some 3)) [oT 7],yS 1 51 .mov [oT 9],yS 2 52 .mov [oT 10],yS 3 53 (.ixS 1) [oT 51,oT 52],yS 4 54 (.ld none) [oT 53],yS 5 55 .call [oF 43,oT 50,oT 54],yS 6 11 .mov [oT 55]]) (.seq (.reg [yS 0 57 (.fld 0) [oT 8],yS 1 58 (.ld (some 3)) [oT 57],yS 2 59 .mov [oT 11],yS 3 60 .call [oF 44,oT 58,oT 59],yS 4 56 .mov [oT 60],yS 5 61 (.ext 0) [oT 56],yS 6 62 (.ext 1) [oT 56],yS 7 12 .mov [oT 61],yS 8 13 .mov [oT 62]]) (.seq (.seq (.reg [yS 0 63 .mov [oT 13],yS 1 64 (.bin .neq 0) [oT 63,oC (nv 0)],yS 2 65 .mov [oT 64],yG (some (65,false)) 3 (some 66) .mov [oT 12],yG (some (65,false)) 4 (some 67) .lenS [oT 66],yG (some (65,false)) 5 (some 68) (.fld 0) [oT 8],yG (some (65,false)) 6 (some 69) (.fld 2) [oT 68],yG (some (65,false)) 7 (some 70) (.ld none) [oT 69],yG (some (65,false)) 8 (some 71) .lenS [oT 70],yG (some (65,false)) 9 (some 72) (.bin .neq 0) [oT 67,oT 71],yS 10 73 .pick [oT 65,oC (.bool true),oT 72]]) (.cond (oT 73) (.seq (.reg [yS 0 4 .mov [oC (.bool false)]]) .ret) .skip)) (.seq (.reg [yS 0 75 (.fld 0) [oT 8],yS 1 76 (.ld (some 3)) [oT 75],yS 2 77 .mov [oT 12],yS 3 78 .call [oF 45,oT 76,oT 77],yS 4 74 .mov [oT 78],yS 5 79 (.ext 0) [oT 74],yS 6 80 (.ext 1) [oT 74],yS 7 14 .mov [oT 79],yS 8 15 .mov [oT 80]]) (.seq (.seq (.reg [yS 0 81 .mov [oT 15],yS 1 82 (.bin .neq 0) [oT 81,oC (nv 0)],yS 2 83 .mov [oT 82],yG (some (83,false)) 3 (some 84) .mov [oT 14],yG (some (83,false)) 4 (some 85) .lenS [oT 84],yG (some (83,false)) 5 (some 86) .mov [oT 11],yG (some (83,false)) 6 (some 87) .lenS [oT 86],yG (some (83,false)) 7 (some 88) (.bin .neq 0) [oT 85,oT 87],yS 8 89 .pick [oT 83,oC (.bool true),oT 88],yS 9 90 .mov [oT 89],yG (some (90,false)) 10 (some 91) .mov [oT 14],yG (some (90,false)) 11 (some 92) .mov [oT 11],yG (some (90,false)) 12 (some 93) .call [oF 46,oT 91,oT 92],yG (some (90,false)) 13 (some 94) (.bin .neq 0) [oT 93,oC (nv 0)],yS 14 95 .pick [oT 90,oC (.bool true),oT 94]]) (.cond (oT 95) (.seq (.reg [yS 0 4 .mov [oC (.bool false)]]) .ret) .skip)) (.seq (.reg [yS 0 16 .mov [oC (nv 0)]]) (.block 2 (.loop [16] 1297994986471192642795030538420240 (.seq (.seq (.reg [yS 0 96 .mov [oT 16],yS 1 97 .mov [oT 10],yS 2 98 (.bin .lss 0) [oT 96,oT 97]]) (.cond (oT 98) .skip (.exit 2))) (.seq (.block 3 (.seq (.reg [yS 0 101 .mov [oT 11],yS 1 102 (.ld (some 3)) [oT 7],yS 2 103 .mov [oT 9],yS 3 104 .mov [oT 16],yS 4 105 (.ixS 1) [oT 103,oT 104],yS 5 106 (.ld none) [oT 105],yS 6 107 .call [oF 43,oT 102,oT 106],yS 7 108 .call [oF 46,oT 101,oT 107],yS 8 109 (.bin .eql 0) [oT 108,oC (nv 0)]]) (.cond (oT 109) (.seq (.reg [yS 0 4 .mov [oC (.bool false)]]) .ret) .skip))) (.reg [yS 0 99 .mov [oT 16],yS 1 100 (.bin .add 0) [oT 99,oC (nv 1)],yS 2 16 .mov [oT 100]])))))))))))) (.reg [yS 0 48 .mov [oT 10],yS 1 49 (.bin .add 0) [oT 48,oC (nv 1)],yS 2 10 .mov [oT 49]])))))) (.seq (.reg [yS 0 110 .mov [oT 5],yS 1 4 .mov [oT 110]]) .ret)))))))))))
theorem xd7_ok:compF Tryz.prog 7=some ⟨111,[(.tmp 4)],xd7.er⟩:=by kernel_rfl
def g7 (x0 y1:Value) (H:AH) (R:Value→AH→Prop):Prop:=
 @letH (H++[.cells (cellsL x0) 24 none false]) ⟨fun H1 =>
 @letH (H1++[.cells (cellsL y1) 24 none false]) ⟨fun H2 =>
 @cG 11 [] H2 ⟨fun v17 H3 =>
 @bindO (eun .not v17) ⟨fun v19 =>
 @condK v19 ⟨fun q=>if q=true then R (.bool false) H3 else
 @bindO (xload (some 4) H3 [(.pointer (some ⟨H.length,0,none⟩))]) ⟨fun v20 =>
 @cG 32 [v20] H3 ⟨fun v21 H4 =>
 @letH (H4++[.cells [(nv 0),(nv 0),(.slice none 0 0)] 29 none false]) ⟨fun H5 =>
 @bindP (xact (.st 3) H5 [(.pointer (some ⟨H4.length,0,none⟩)),v21]) ⟨fun _v H6 =>
 @bindO (xload (some 4) H6 [(.pointer (some ⟨H1.length,0,none⟩))]) ⟨fun v22 =>
 @cG 33 [v22] H6 ⟨fun v23 H7 =>
 @letH (H7++[.cells [(nv 0),(nv 0),(.slice none 0 0)] 29 none false]) ⟨fun H8 =>
 @bindP (xact (.st 3) H8 [(.pointer (some ⟨H7.length,0,none⟩)),v23]) ⟨fun _v H9 =>
 @bindO (xload (some 3) H9 [(.pointer (some ⟨H4.length,0,none⟩))]) ⟨fun v24 =>
 @bindO (xload (some 3) H9 [(.pointer (some ⟨H7.length,0,none⟩))]) ⟨fun v25 =>
 @cG 26 [v24,v25] H9 ⟨fun v26 H10 =>
 @letH (H10++[.cells [(nv 0),(nv 0),(.slice none 0 0),(nv 0)] 37 none false]) ⟨fun H11 =>
 @bindP (xact (.st 4) H11 [(.pointer (some ⟨H10.length,0,none⟩)),v26]) ⟨fun _v H12 =>
 @bindO (xpure (.fld 3) [(.pointer (some ⟨H10.length,0,none⟩))]) ⟨fun v27 =>
 @bindO (xload none H12 [v27]) ⟨fun v28 =>
 @bindO (xbin .neq 0 v28 (nv 0)) ⟨fun v29 =>
 @guardJ (asNB v29) (fun J1=>@bindO (xpure (.fld 0) [(.pointer (some ⟨H10.length,0,none⟩))]) ⟨fun v31 =>
 J1 v31 H12⟩) H12 ⟨fun v31a H13 =>
 @guardJ (asNB v29) (fun J2=>@bindO (xload (some 3) H13 [v31a]) ⟨fun v32 =>
 J2 v32 H13⟩) H13 ⟨fun v32a H14 =>
 @guardJ (asNB v29) (fun J3=>@cG 41 [v32a] H14 ⟨fun v33 H15 =>
 J3 v33 H15⟩) H14 ⟨fun v33a H16 =>
 @guardJ (asNB v29) (fun J4=>@bindO (eun .not v33a) ⟨fun v34 =>
 J4 v34 H16⟩) H16 ⟨fun v34a H17 =>
 @pickK v29 (.bool true) v34a ⟨fun v35 =>
 @condK v35 ⟨fun q=>if q=true then R (.bool false) H17 else
 @bindO (xload (some 3) H17 [(.pointer (some ⟨H4.length,0,none⟩))]) ⟨fun v36 =>
 @cG 39 [v36] H17 ⟨fun v37 H18 =>
 @bindO (xpure (.fld 0) [(.pointer (some ⟨H10.length,0,none⟩))]) ⟨fun v38 =>
 @bindO (xload (some 3) H18 [v38]) ⟨fun v39 =>
 @cG 42 [v39] H18 ⟨fun v40 H19 =>
 @bindO (xpure .lenS [v37]) ⟨fun v42 =>
 @bindO (xbin .neq 0 v40 v42) ⟨fun v43 =>
 @condK v43 ⟨fun q=>if q=true then R (.bool false) H19 else
 @loopV1 (nv 0) H19 ⟨fun i10 H20 K5 =>
 @bindO (xpure .lenS [v37]) ⟨fun v46 =>
 @bindO (xbin .lss 0 i10 v46) ⟨fun v47 =>
 @condK v47 ⟨fun q=>if q=true then @bindO (xload (some 3) H20 [(.pointer (some ⟨H7.length,0,none⟩))]) ⟨fun v50 =>
 @bindO (xpure (.ixS 1) [v37,i10]) ⟨fun v53 =>
 @bindO (xload none H20 [v53]) ⟨fun v54 =>
 @cG 43 [v50,v54] H20 ⟨fun v55 H21 =>
 @bindO (xpure (.fld 0) [(.pointer (some ⟨H10.length,0,none⟩))]) ⟨fun v57 =>
 @bindO (xload (some 3) H21 [v57]) ⟨fun v58 =>
 @cG 44 [v58,v55] H21 ⟨fun v60 H22 =>
 @bindO (xpure (.ext 0) [v60]) ⟨fun v61 =>
 @bindO (xpure (.ext 1) [v60]) ⟨fun v62 =>
 @bindO (xbin .neq 0 v62 (nv 0)) ⟨fun v64 =>
 @guardJ (asNB v64) (fun J6=>J6 v61 H22) H22 ⟨fun v66 H23 =>
 @guardJ (asNB v64) (fun J7=>@bindO (xpure .lenS [v66]) ⟨fun v67 =>
 J7 v67 H23⟩) H23 ⟨fun v67a H24 =>
 @guardJ (asNB v64) (fun J8=>@bindO (xpure (.fld 0) [(.pointer (some ⟨H10.length,0,none⟩))]) ⟨fun v68 =>
 J8 v68 H24⟩) H24 ⟨fun v68a H25 =>
 @guardJ (asNB v64) (fun J9=>@bindO (xpure (.fld 2) [v68a]) ⟨fun v69 =>
 J9 v69 H25⟩) H25 ⟨fun v69a H26 =>
 @guardJ (asNB v64) (fun J10=>@bindO (xload none H26 [v69a]) ⟨fun v70 =>
 J10 v70 H26⟩) H26 ⟨fun v70a H27 =>
 @guardJ (asNB v64) (fun J11=>@bindO (xpure .lenS [v70a]) ⟨fun v71 =>
 J11 v71 H27⟩) H27 ⟨fun v71a H28 =>
 @guardJ (asNB v64) (fun J12=>@bindO (xbin .neq 0 v67a v71a) ⟨fun v72 =>
 J12 v72 H28⟩) H28 ⟨fun v72a H29 =>
 @pickK v64 (.bool true) v72a ⟨fun v73 =>
 @condK v73 ⟨fun q=>if q=true then R (.bool false) H29 else
 @bindO (xpure (.fld 0) [(.pointer (some ⟨H10.length,0,none⟩))]) ⟨fun v75 =>
 @bindO (xload (some 3) H29 [v75]) ⟨fun v76 =>
 @cG 45 [v76,v61] H29 ⟨fun v78 H30 =>
 @bindO (xpure (.ext 0) [v78]) ⟨fun v79 =>
 @bindO (xpure (.ext 1) [v78]) ⟨fun v80 =>
 @bindO (xbin .neq 0 v80 (nv 0)) ⟨fun v82 =>
 @guardJ (asNB v82) (fun J13=>J13 v79 H30) H30 ⟨fun v84 H31 =>
 @guardJ (asNB v82) (fun J14=>@bindO (xpure .lenS [v84]) ⟨fun v85 =>
 J14 v85 H31⟩) H31 ⟨fun v85a H32 =>
 @guardJ (asNB v82) (fun J15=>J15 v55 H32) H32 ⟨fun v86 H33 =>
 @guardJ (asNB v82) (fun J16=>@bindO (xpure .lenS [v86]) ⟨fun v87 =>
 J16 v87 H33⟩) H33 ⟨fun v87a H34 =>
 @guardJ (asNB v82) (fun J17=>@bindO (xbin .neq 0 v85a v87a) ⟨fun v88 =>
 J17 v88 H34⟩) H34 ⟨fun v88a H35 =>
 @pickK v82 (.bool true) v88a ⟨fun v89 =>
 @guardJ (asNB v89) (fun J18=>J18 v79 H35) H35 ⟨fun v91 H36 =>
 @guardJ (asNB v89) (fun J19=>J19 v55 H36) H36 ⟨fun v92 H37 =>
 @guardJ (asNB v89) (fun J20=>@cG 46 [v91,v92] H37 ⟨fun v93 H38 =>
 J20 v93 H38⟩) H37 ⟨fun v93a H39 =>
 @guardJ (asNB v89) (fun J21=>@bindO (xbin .neq 0 v93a (nv 0)) ⟨fun v94 =>
 J21 v94 H39⟩) H39 ⟨fun v94a H40 =>
 @pickK v89 (.bool true) v94a ⟨fun v95 =>
 @condK v95 ⟨fun q=>if q=true then R (.bool false) H40 else
 @loopV1 (nv 0) H40 ⟨fun k16 H41 K22 =>
 @bindO (xbin .lss 0 k16 i10) ⟨fun v98 =>
 @condK v98 ⟨fun q=>if q=true then @bindO (xload (some 3) H41 [(.pointer (some ⟨H7.length,0,none⟩))]) ⟨fun v102 =>
 @bindO (xpure (.ixS 1) [v37,k16]) ⟨fun v105 =>
 @bindO (xload none H41 [v105]) ⟨fun v106 =>
 @cG 43 [v102,v106] H41 ⟨fun v107 H42 =>
 @cG 46 [v55,v107] H42 ⟨fun v108 H43 =>
 @bindO (xbin .eql 0 v108 (nv 0)) ⟨fun v109 =>
 @condK v109 ⟨fun q=>if q=true then R (.bool false) H43 else
 @bindO (xbin .add 0 k16 (nv 1)) ⟨fun v100 =>
 K22 v100 H43⟩⟩⟩⟩⟩⟩⟩⟩ else
 @bindO (xbin .add 0 i10 (nv 1)) ⟨fun v49 =>
 K5 v49 H41⟩⟩⟩⟩⟩⟩⟩⟩⟩⟩⟩⟩⟩⟩⟩⟩⟩⟩⟩⟩⟩⟩⟩⟩⟩⟩⟩⟩⟩⟩⟩⟩⟩⟩⟩⟩⟩⟩⟩⟩⟩ else
 R v17 H20⟩⟩⟩⟩⟩⟩⟩⟩⟩⟩⟩⟩⟩⟩⟩⟩⟩⟩⟩⟩⟩⟩⟩⟩⟩⟩⟩⟩⟩⟩⟩⟩⟩⟩⟩⟩⟩⟩⟩
theorem g7_of {x0 y1:Value} {H:AH} {R:Value→AH→Prop} (h:g7 x0 y1 H R):FN Tryz.prog 7 [x0,y1] H R:=
  FN.of_XD mixed xd7_ok (by kernel_rfl) (Nat.le_of_ble_eq_true rfl) (cast (by kernel_rfl) h)
end Go.Sim
