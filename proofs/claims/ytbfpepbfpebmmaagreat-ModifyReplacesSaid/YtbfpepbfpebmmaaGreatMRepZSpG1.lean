/- Part of the proof: ZSpG1. -/
import Derived.Test.YtbfpepbfpebmmaaGreatMRepShSToXfS
import Derived.Test.YtbfpepbfpebmmaaGreatMRepZShMixToZPfFieldI
import Derived.KernelRfl
set_option linter.all false
set_option maxRecDepth 100000
namespace Go.Sim
open Go Go.Proofs
def xd173:XD:=(.seq (.reg [yS 0 2 (.box 76) [oT 0],yS 1 4 .mov [oC (.slice none 0 0)]]) (.seq (.reg [yS 0 6 (.ld (some 3)) [oT 2],yS 1 7 .mov [oT 1],yS 2 8 .call [oF 204,oT 6,oT 7],yS 3 5 .mov [oT 8]]) (.seq (.reg [yS 0 9 .mov [oT 5],yS 1 10 .nilc [oT 9],yS 2 11 (.fld 3) [oT 10],⟨none,(.ld none),[oT 11],some 12,3,true,[]⟩,yS 4 13 .mov [oT 5],yS 5 14 .mov [oT 1],⟨none,.call,[oF 206,oT 14],some 15,6,false,[3]⟩,⟨none,.call,[oF 205,oT 13,oT 15],some 16,7,false,[3]⟩,yS 8 17 .lenS [oT 16],yS 9 18 (.slS 1 false true) [oT 12,oT 17],yS 10 4 .mov [oT 18]]) .ret)))
theorem xd173_ok:compF Tryz.prog 173=some ⟨19,[(.tmp 4)],xd173.er⟩:=by kernel_rfl
def g173 (f0 rows1:Value) (H:AH) (R:Value→AH→Prop):Prop:=
 @letH (H++[.cells (cellsL f0) 76 none false]) ⟨fun H1 =>
 @bindO (xload (some 3) H1 [(.pointer (some ⟨H.length,0,none⟩))]) ⟨fun v6 =>
 @cG 204 [v6,rows1] H1 ⟨fun v8 H2 =>
 @bindO (xpure .nilc [v8]) ⟨fun v10 =>
 @bindO (xpure (.fld 3) [v10]) ⟨fun v11 =>
 @bindO (xload none H2 [v11]) ⟨fun v12 =>
 @cG 206 [rows1] H2 ⟨fun v15 H3 =>
 (chkX [3] (⟨3,none,[v11],v12⟩ :: []) H3∧@cG 205 [v8,v15] H3 ⟨fun v16 H4 =>
 (chkX [3] (⟨3,none,[v11],v12⟩ :: []) H4∧@bindO (xpure .lenS [v16]) ⟨fun v17 =>
 @bindO (xpure (.slS 1 false true) [v12,v17]) ⟨fun v18 =>
 R v18 H4⟩⟩)⟩)⟩⟩⟩⟩⟩⟩⟩
theorem g173_of {f0 rows1:Value} {H:AH} {R:Value→AH→Prop} (h:g173 f0 rows1 H R):FN Tryz.prog 173 [f0,rows1] H R:=
  FN.of_XD mixed xd173_ok (by kernel_rfl) (Nat.le_of_ble_eq_true rfl) (cast (by kernel_rfl) h)
def xd204:XD:=(.seq (.reg [yS 0 2 (.box 76) [oT 0],yS 1 4 .mov [oC (.pointer none)]]) (.seq (.reg [yS 0 9 (.ld (some 3)) [oT 2],yS 1 10 (.bld [(nv 0),(nv 0),(.slice none 0 0),(.slice none 0 0)] [(0,3)]) [oT 9],yS 2 11 (.box 193) [oT 10],yS 3 5 .mov [oT 11]]) (.seq (.seq (.reg [yS 0 12 .mov [oT 1],yS 1 13 .lenS [oT 12],yS 2 14 .mov [oC (nv 0)]]) (.block 0 (.loop [14] 34359722368 (.seq (.reg [yS 0 15 (.bin .lss 0) [oT 14,oT 13]]) (.seq (.cond (oT 15) .skip (.exit 0)) (.seq (.block 1 (.seq (.reg [yS 0 16 (.ixS 1) [oT 12,oT 14],yS 1 17 (.ld none) [oT 16],yS 2 7 .mov [oT 17]]) (.seq (.reg [yS 0 18 .mov [oT 7],yS 1 19 .lenS [oT 18],yS 2 20 (.make (nv 0) 1 8 3) [oT 19,oT 19],yS 3 8 .mov [oT 20]]) (.seq (.reg [yS 0 21 .mov [oT 8],yS 1 22 .mov [oT 7],yS 2 23 (.cpy 1) [oT 21,oT 22]]) (.reg [yS 0 24 .mov [oT 5],yS 1 25 .mov [oT 5],yS 2 26 .nilc [oT 25],yS 3 27 (.fld 3) [oT 26],yS 4 28 (.ld none) [oT 27],yS 5 29 .mov [oT 8],yS 6 30 (.bsl [(.slice none 0 0)] 1 [(0,1)] 31) [oT 29],yS 7 31 (.app 31 1 24) [oT 28,oT 30],yS 8 32 .nilc [oT 24],yS 9 33 (.fld 3) [oT 32],yN 10 (.st 1) [oT 33,oT 31]]))))) (.reg [yS 0 34 (.bin .add 0) [oT 14,oC (nv 1)],yS 1 14 .mov [oT 34]]))))))) (.seq (.reg [yS 0 35 .mov [oT 5],yS 1 4 .mov [oT 35]]) .ret))))
theorem xd204_ok:compF Tryz.prog 204=some ⟨36,[(.tmp 4)],xd204.er⟩:=by kernel_rfl
def g204 (f0 rows1:Value) (H:AH) (R:Value→AH→Prop):Prop:=
 @letH (H++[.cells (cellsL f0) 76 none false]) ⟨fun H1 =>
 @bindO (xload (some 3) H1 [(.pointer (some ⟨H.length,0,none⟩))]) ⟨fun v9 =>
 @bindL (xfill [(nv 0),(nv 0),(.slice none 0 0),(.slice none 0 0)] [(0,3)] [v9]) ⟨fun v10 =>
 @letH (H1++[.cells (cellsL (.agg v10.toArray)) 193 none false]) ⟨fun H2 =>
 @bindO (xpure .lenS [rows1]) ⟨fun v13 =>
 @loopV1 (nv 0) H2 ⟨fun v14 H3 K1 =>
 @bindO (xbin .lss 0 v14 v13) ⟨fun v15 =>
 @condK v15 ⟨fun q=>if q=true then @bindO (xpure (.ixS 1) [rows1,v14]) ⟨fun v16 =>
 @bindO (xload none H3 [v16]) ⟨fun v17 =>
 @bindO (xpure .lenS [v17]) ⟨fun v19 =>
 @bindN (xnew (.make (nv 0) 1 8 3) [v19,v19]) ⟨fun cv20 ev20 mkv20=>@letH (H3++[.cells cv20 ev20 none false]) ⟨fun H4 =>
 @bindP (xact (.cpy 1) H4 [(mkv20 H3.length),v17]) ⟨fun v23 H5 =>
 @bindO (xpure .nilc [(.pointer (some ⟨H1.length,0,none⟩))]) ⟨fun v26 =>
 @bindO (xpure (.fld 3) [v26]) ⟨fun v27 =>
 @bindO (xload none H5 [v27]) ⟨fun v28 =>
 @bindL (xfill [(.slice none 0 0)] [(0,1)] [(mkv20 H3.length)]) ⟨fun cv30=>@letH (H5++[.cells cv30 31 none false]) ⟨fun H6 =>
 @bindP (xact (.app 31 1 24) H6 [v28,(.slice (some ⟨H5.length,0,none⟩) 1 1)]) ⟨fun v31 H7 =>
 @bindO (xpure .nilc [(.pointer (some ⟨H1.length,0,none⟩))]) ⟨fun v32 =>
 @bindO (xpure (.fld 3) [v32]) ⟨fun v33 =>
 @bindP (xact (.st 1) H7 [v33,v31]) ⟨fun _v H8 =>
 @bindO (xbin .add 0 v14 (nv 1)) ⟨fun v34 =>
 K1 v34 H8⟩⟩⟩⟩⟩⟩⟩⟩⟩⟩⟩⟩⟩⟩⟩⟩ else
 R (.pointer (some ⟨H1.length,0,none⟩)) H3⟩⟩⟩⟩⟩⟩⟩⟩
theorem g204_of {f0 rows1:Value} {H:AH} {R:Value→AH→Prop} (h:g204 f0 rows1 H R):FN Tryz.prog 204 [f0,rows1] H R:=
  FN.of_XD mixed xd204_ok (by kernel_rfl) (Nat.le_of_ble_eq_true rfl) (cast (by kernel_rfl) h)
def xd205:XD:=(.seq (.reg [yS 0 4 .mov [oC (.slice none 0 0)]]) (.seq (.reg [yS 0 5 .mov [oC (.slice none 0 0)]]) (.seq (.seq (.reg [yS 0 12 .mov [oT 1],yS 1 13 .mov [oC (nv 0)]]) (.block 0 (.loop [5,13] 170141183460469231731687303715884101600 (.seq (.reg [yS 0 14 (.bin .lss 0) [oT 13,oT 12]]) (.seq (.cond (oT 14) .skip (.exit 0)) (.seq (.block 1 (.seq (.reg [yS 0 15 .mov [oT 13],yS 1 6 .mov [oT 15]]) (.seq (.reg [yS 0 16 .mov [oT 5],yS 1 17 .lenS [oT 16],yS 2 7 .mov [oT 17]]) (.seq (.reg [yS 0 18 .mov [oT 7],yS 1 8 .mov [oT 18]]) (.seq (.block 2 (.loop [8] 2199022731520 (.seq (.seq (.reg [yS 0 19 .mov [oT 8],yS 1 20 .mov [oT 0],yS 2 21 .nilc [oT 20],yS 3 22 (.fld 3) [oT 21],yS 4 23 (.ld none) [oT 22],yS 5 24 .lenS [oT 23],yS 6 25 (.bin .lss 0) [oT 19,oT 24],yS 7 26 .mov [oT 25],yG (some (26,true)) 8 (some 27) .mov [oT 0],yG (some (26,true)) 9 (some 28) .nilc [oT 27],yG (some (26,true)) 10 (some 29) (.fld 3) [oT 28],yG (some (26,true)) 11 (some 30) (.ld none) [oT 29],yG (some (26,true)) 12 (some 31) .mov [oT 8],yG (some (26,true)) 13 (some 32) (.ixS 1) [oT 30,oT 31],yG (some (26,true)) 14 (some 33) (.ld none) [oT 32],yG (some (26,true)) 15 (some 34) .mov [oT 6],yG (some (26,true)) 16 (some 35) (.ixS 1) [oT 33,oT 34],yG (some (26,true)) 17 (some 36) (.ld none) [oT 35],yG (some (26,true)) 18 (some 37) (.bin .eql 0) [oT 36,oC (nv 0)],yS 19 38 .pick [oT 26,oT 37,oC (.bool false)]]) (.cond (oT 38) .skip (.exit 2))) (.block 3 (.reg [yS 0 39 .mov [oT 8],yS 1 40 (.bin .add 0) [oT 39,oC (nv 1)],yS 2 8 .mov [oT 40]]))))) (.seq (.seq (.reg [yS 0 41 .mov [oT 8],yS 1 42 .mov [oT 0],yS 2 43 .nilc [oT 42],yS 3 44 (.fld 3) [oT 43],yS 4 45 (.ld none) [oT 44],yS 5 46 .lenS [oT 45],yS 6 47 (.bin .eql 0) [oT 41,oT 46]]) (.cond (oT 47) (.exit 1) .skip)) (.seq (.reg [yS 0 48 .mov [oT 0],yS 1 49 .nilc [oT 48],yS 2 50 (.fld 3) [oT 49],yS 3 51 (.ld none) [oT 50],yS 4 52 .mov [oT 8],yS 5 53 .mov [oT 0],yS 6 54 .nilc [oT 53],yS 7 55 (.fld 3) [oT 54],yS 8 56 (.ld none) [oT 55],yS 9 57 .mov [oT 7],yS 10 58 .mov [oT 0],yS 11 59 .nilc [oT 58],yS 12 60 (.fld 3) [oT 59],yS 13 61 (.ld none) [oT 60],yS 14 62 .mov [oT 7],yS 15 63 (.ixS 1) [oT 61,oT 62],yS 16 64 (.ld none) [oT 63],yS 17 65 .mov [oT 0],yS 18 66 .nilc [oT 65],yS 19 67 (.fld 3) [oT 66],yS 20 68 (.ld none) [oT 67],yS 21 69 .mov [oT 8],yS 22 70 (.ixS 1) [oT 68,oT 69],yS 23 71 (.ld none) [oT 70],yS 24 72 (.ixS 1) [oT 51,oT 52],yN 25 (.st 1) [oT 72,oT 64],yS 26 73 (.ixS 1) [oT 56,oT 57],yN 27 (.st 1) [oT 73,oT 71]]) (.seq (.reg [yS 0 75 .mov [oT 0],yS 1 76 .nilc [oT 75],yS 2 77 (.fld 0) [oT 76],yS 3 78 (.ld (some 3)) [oT 77],yS 4 79 .mov [oT 0],yS 5 80 .nilc [oT 79],yS 6 81 (.fld 3) [oT 80],yS 7 82 (.ld none) [oT 81],yS 8 83 .mov [oT 7],yS 9 84 (.ixS 1) [oT 82,oT 83],yS 10 85 (.ld none) [oT 84],yS 11 86 .mov [oT 6],yS 12 87 (.ixS 1) [oT 85,oT 86],yS 13 88 (.ld none) [oT 87],yS 14 89 .call [oF 142,oT 78,oT 88],yS 15 74 .mov [oT 89],yS 16 90 (.ext 0) [oT 74],yS 17 91 (.ext 1) [oT 74],yS 18 9 .mov [oT 90],yS 19 10 .mov [oT 91]]) (.seq (.reg [yS 0 92 .mov [oT 0],yS 1 93 .mov [oT 7],yS 2 94 .mov [oT 9],yS 3 95 .call [oF 219,oT 92,oT 93,oT 94]]) (.seq (.seq (.reg [yS 0 96 .mov [oT 0],yS 1 97 .nilc [oT 96],yS 2 98 (.fld 3) [oT 97],yS 3 99 (.ld none) [oT 98],yS 4 100 .lenS [oT 99],yS 5 101 .mov [oC (nv 0)]]) (.block 4 (.loop [101] 5316909447838463035156425247714969600 (.seq (.reg [yS 0 102 (.bin .lss 0) [oT 101,oT 100]]) (.seq (.cond (oT 102) .skip (.exit 4)) (.seq (.block 5 (.seq (.reg [yS 0 103 .mov [oT 101],yS 1 11 .mov [oT 103]]) (.seq (.reg [yS 0 104 .mov [oT 11],yS 1 105 .mov [oT 7],yS 2 106 (.bin .neq 0) [oT 104,oT 105]]) (.cond (oT 106) (.reg [yS 0 107 .mov [oT 0],yS 1 108 .mov [oT 11],yS 2 109 .mov [oT 0],yS 3 110 .nilc [oT 109],yS 4 111 (.fld 3) [oT 110],yS 5 112 (.ld none) [oT 111],yS 6 113 .mov [oT 11],yS 7 114 (.ixS 1) [oT 112,oT 113],yS 8 115 (.ld none) [oT 114],yS 9 116 .mov [oT 6],yS 10 117 (.ixS 1) [oT 115,oT 116],yS 11 118 (.ld none) [oT 117],yS 12 119 .mov [oT 7],yS 13 120 .call [oF 220,oT 107,oT 108,oT 118,oT 119]]) .skip)))) (.reg [yS 0 121 (.bin .add 0) [oT 101,oC (nv 1)],yS 1 101 .mov [oT 121]]))))))) (.reg [yS 0 122 .mov [oT 5],yS 1 123 .mov [oT 6],yS 2 124 (.bsl [(nv 0)] 1 [(0,1)] 3) [oT 123],yS 3 125 (.app 3 1 8) [oT 122,oT 124],yS 4 5 .mov [oT 125]]))))))))))) (.reg [yS 0 126 (.bin .add 0) [oT 13,oC (nv 1)],yS 1 13 .mov [oT 126]]))))))) (.seq (.reg [yS 0 127 .mov [oT 5],yS 1 4 .mov [oT 127]]) .ret))))
theorem xd205_ok:compF Tryz.prog 205=some ⟨128,[(.tmp 4)],xd205.er⟩:=by kernel_rfl
def g205 (m0 width1:Value) (H:AH) (R:Value→AH→Prop):Prop:=
 @loopV2 (.slice none 0 0) (nv 0) H ⟨fun pivots5 v13 H1 K1 =>
 @bindO (xbin .lss 0 v13 width1) ⟨fun v14 =>
 @condK v14 ⟨fun q=>if q=true then @bindO (xpure .lenS [pivots5]) ⟨fun v17 =>
 @loopV1 v17 H1 ⟨fun i8 H2 K2 =>
 @bindO (xpure .nilc [m0]) ⟨fun v21 =>
 @bindO (xpure (.fld 3) [v21]) ⟨fun v22 =>
 @bindO (xload none H2 [v22]) ⟨fun v23 =>
 @bindO (xpure .lenS [v23]) ⟨fun v24 =>
 @bindO (xbin .lss 0 i8 v24) ⟨fun v25 =>
 @guardJ (asB v25) (fun J3=>J3 m0 H2) H2 ⟨fun v27 H3 =>
 @guardJ (asB v25) (fun J4=>@bindO (xpure .nilc [v27]) ⟨fun v28 =>
 J4 v28 H3⟩) H3 ⟨fun v28a H4 =>
 @guardJ (asB v25) (fun J5=>@bindO (xpure (.fld 3) [v28a]) ⟨fun v29 =>
 J5 v29 H4⟩) H4 ⟨fun v29a H5 =>
 @guardJ (asB v25) (fun J6=>@bindO (xload none H5 [v29a]) ⟨fun v30 =>
 J6 v30 H5⟩) H5 ⟨fun v30a H6 =>
 @guardJ (asB v25) (fun J7=>J7 i8 H6) H6 ⟨fun v31 H7 =>
 @guardJ (asB v25) (fun J8=>@bindO (xpure (.ixS 1) [v30a,v31]) ⟨fun v32 =>
 J8 v32 H7⟩) H7 ⟨fun v32a H8 =>
 @guardJ (asB v25) (fun J9=>@bindO (xload none H8 [v32a]) ⟨fun v33 =>
 J9 v33 H8⟩) H8 ⟨fun v33a H9 =>
 @guardJ (asB v25) (fun J10=>J10 v13 H9) H9 ⟨fun v34 H10 =>
 @guardJ (asB v25) (fun J11=>@bindO (xpure (.ixS 1) [v33a,v34]) ⟨fun v35 =>
 J11 v35 H10⟩) H10 ⟨fun v35a H11 =>
 @guardJ (asB v25) (fun J12=>@bindO (xload none H11 [v35a]) ⟨fun v36 =>
 J12 v36 H11⟩) H11 ⟨fun v36a H12 =>
 @guardJ (asB v25) (fun J13=>@bindO (xbin .eql 0 v36a (nv 0)) ⟨fun v37 =>
 J13 v37 H12⟩) H12 ⟨fun v37a H13 =>
 @pickK v25 v37a (.bool false) ⟨fun v38 =>
 @condK v38 ⟨fun q=>if q=true then @bindO (xbin .add 0 i8 (nv 1)) ⟨fun v40 =>
 K2 v40 H13⟩ else
 @bindO (xpure .nilc [m0]) ⟨fun v43 =>
 @bindO (xpure (.fld 3) [v43]) ⟨fun v44 =>
 @bindO (xload none H13 [v44]) ⟨fun v45 =>
 @bindO (xpure .lenS [v45]) ⟨fun v46 =>
 @bindO (xbin .eql 0 i8 v46) ⟨fun v47 =>
 @condK v47 ⟨fun q=>if q=true then @bindO (xbin .add 0 v13 (nv 1)) ⟨fun v126 =>
 K1 pivots5 v126 H13⟩ else
 @bindO (xpure .nilc [m0]) ⟨fun v49 =>
 @bindO (xpure (.fld 3) [v49]) ⟨fun v50 =>
 @bindO (xload none H13 [v50]) ⟨fun v51 =>
 @bindO (xpure .nilc [m0]) ⟨fun v54 =>
 @bindO (xpure (.fld 3) [v54]) ⟨fun v55 =>
 @bindO (xload none H13 [v55]) ⟨fun v56 =>
 @bindO (xpure .nilc [m0]) ⟨fun v59 =>
 @bindO (xpure (.fld 3) [v59]) ⟨fun v60 =>
 @bindO (xload none H13 [v60]) ⟨fun v61 =>
 @bindO (xpure (.ixS 1) [v61,v17]) ⟨fun v63 =>
 @bindO (xload none H13 [v63]) ⟨fun v64 =>
 @bindO (xpure .nilc [m0]) ⟨fun v66 =>
 @bindO (xpure (.fld 3) [v66]) ⟨fun v67 =>
 @bindO (xload none H13 [v67]) ⟨fun v68 =>
 @bindO (xpure (.ixS 1) [v68,i8]) ⟨fun v70 =>
 @bindO (xload none H13 [v70]) ⟨fun v71 =>
 @bindO (xpure (.ixS 1) [v51,i8]) ⟨fun v72 =>
 @bindP (xact (.st 1) H13 [v72,v64]) ⟨fun _v H14 =>
 @bindO (xpure (.ixS 1) [v56,v17]) ⟨fun v73 =>
 @bindP (xact (.st 1) H14 [v73,v71]) ⟨fun _v H15 =>
 @bindO (xpure .nilc [m0]) ⟨fun v76 =>
 @bindO (xpure (.fld 0) [v76]) ⟨fun v77 =>
 @bindO (xload (some 3) H15 [v77]) ⟨fun v78 =>
 @bindO (xpure .nilc [m0]) ⟨fun v80 =>
 @bindO (xpure (.fld 3) [v80]) ⟨fun v81 =>
 @bindO (xload none H15 [v81]) ⟨fun v82 =>
 @bindO (xpure (.ixS 1) [v82,v17]) ⟨fun v84 =>
 @bindO (xload none H15 [v84]) ⟨fun v85 =>
 @bindO (xpure (.ixS 1) [v85,v13]) ⟨fun v87 =>
 @bindO (xload none H15 [v87]) ⟨fun v88 =>
 @cG 142 [v78,v88] H15 ⟨fun v89 H16 =>
 @bindO (xpure (.ext 0) [v89]) ⟨fun v90 =>
 @bindO (xpure (.ext 1) [v89]) ⟨fun v91 =>
 @cG 219 [m0,v17,v90] H16 ⟨fun v95 H17 =>
 @bindO (xpure .nilc [m0]) ⟨fun v97 =>
 @bindO (xpure (.fld 3) [v97]) ⟨fun v98 =>
 @bindO (xload none H17 [v98]) ⟨fun v99 =>
 @bindO (xpure .lenS [v99]) ⟨fun v100 =>
 @loopV1 (nv 0) H17 ⟨fun v101 H18 K14 =>
 @bindO (xbin .lss 0 v101 v100) ⟨fun v102 =>
 @condK v102 ⟨fun q=>if q=true then @bindO (xbin .neq 0 v101 v17) ⟨fun v106 =>
 @condK v106 ⟨fun q=>if q=true then @bindO (xpure .nilc [m0]) ⟨fun v110 =>
 @bindO (xpure (.fld 3) [v110]) ⟨fun v111 =>
 @bindO (xload none H18 [v111]) ⟨fun v112 =>
 @bindO (xpure (.ixS 1) [v112,v101]) ⟨fun v114 =>
 @bindO (xload none H18 [v114]) ⟨fun v115 =>
 @bindO (xpure (.ixS 1) [v115,v13]) ⟨fun v117 =>
 @bindO (xload none H18 [v117]) ⟨fun v118 =>
 @cG 220 [m0,v101,v118,v17] H18 ⟨fun v120 H19 =>
 @bindO (xbin .add 0 v101 (nv 1)) ⟨fun v121 =>
 K14 v121 H19⟩⟩⟩⟩⟩⟩⟩⟩⟩ else
 @bindO (xbin .add 0 v101 (nv 1)) ⟨fun v121a =>
 K14 v121a H18⟩⟩⟩ else
 @bindL (xfill [(nv 0)] [(0,1)] [v13]) ⟨fun cv124=>@letH (H18++[.cells cv124 3 none false]) ⟨fun H20 =>
 @bindP (xact (.app 3 1 8) H20 [pivots5,(.slice (some ⟨H18.length,0,none⟩) 1 1)]) ⟨fun v125 H21 =>
 @bindO (xbin .add 0 v13 (nv 1)) ⟨fun v126a =>
 K1 v125 v126a H21⟩⟩⟩⟩⟩⟩⟩⟩⟩⟩⟩⟩⟩⟩⟩⟩⟩⟩⟩⟩⟩⟩⟩⟩⟩⟩⟩⟩⟩⟩⟩⟩⟩⟩⟩⟩⟩⟩⟩⟩⟩⟩⟩⟩⟩⟩⟩⟩⟩⟩⟩⟩⟩⟩⟩⟩⟩⟩⟩⟩⟩⟩⟩⟩⟩⟩⟩⟩⟩⟩⟩ else
 R pivots5 H1⟩⟩⟩
theorem g205_of {m0 width1:Value} {H:AH} {R:Value→AH→Prop} (h:g205 m0 width1 H R):FN Tryz.prog 205 [m0,width1] H R:=
  FN.of_XD mixed xd205_ok (by kernel_rfl) (Nat.le_of_ble_eq_true rfl) (cast (by kernel_rfl) h)
def xd206:XD:=(.seq (.reg [yS 0 2 .mov [oC (nv 0)]]) (.seq (.seq (.reg [yS 0 3 .mov [oT 0],yS 1 4 .lenS [oT 3],yS 2 5 (.bin .eql 0) [oT 4,oC (nv 0)]]) (.cond (oT 5) (.seq (.reg [yS 0 2 .mov [oC (nv 0)]]) .ret) .skip)) (.seq (.reg [yS 0 6 .mov [oT 0],yS 1 7 (.ixS 1) [oT 6,oC (nv 0)],yS 2 8 (.ld none) [oT 7],yS 3 9 .lenS [oT 8],yS 4 2 .mov [oT 9]]) .ret)))
theorem xd206_ok:compF Tryz.prog 206=some ⟨10,[(.tmp 2)],xd206.er⟩:=by kernel_rfl
def g206 (rows0:Value) (H:AH) (R:Value→AH→Prop):Prop:=
 @bindO (xpure .lenS [rows0]) ⟨fun v4 =>
 @bindO (xbin .eql 0 v4 (nv 0)) ⟨fun v5 =>
 @condK v5 ⟨fun q=>if q=true then R (nv 0) H else
 @bindO (xpure (.ixS 1) [rows0,(nv 0)]) ⟨fun v7 =>
 @bindO (xload none H [v7]) ⟨fun v8 =>
 @bindO (xpure .lenS [v8]) ⟨fun v9 =>
 R v9 H⟩⟩⟩⟩⟩⟩
theorem g206_of {rows0:Value} {H:AH} {R:Value→AH→Prop} (h:g206 rows0 H R):FN Tryz.prog 206 [rows0] H R:=
  FN.of_XD mixed xd206_ok (by kernel_rfl) (Nat.le_of_ble_eq_true rfl) (cast (by kernel_rfl) h)
def xd219:XD:=(.seq (.reg [yS 0 8 .mov [oT 0],yS 1 9 .nilc [oT 8],yS 2 10 (.fld 3) [oT 9],yS 3 11 (.ld none) [oT 10],yS 4 12 .mov [oT 1],yS 5 13 (.ixS 1) [oT 11,oT 12],yS 6 14 (.ld none) [oT 13],yS 7 15 .lenS [oT 14],yS 8 16 .mov [oC (nv 0)]]) (.block 0 (.loop [16] 274877841600 (.seq (.reg [yS 0 17 (.bin .lss 0) [oT 16,oT 15]]) (.seq (.cond (oT 17) .skip (.exit 0)) (.seq (.block 1 (.seq (.reg [yS 0 18 .mov [oT 16],yS 1 19 (.ixS 1) [oT 14,oT 16],yS 2 20 (.ld none) [oT 19],yS 3 6 .mov [oT 18],yS 4 7 .mov [oT 20]]) (.reg [yS 0 21 .mov [oT 0],yS 1 22 .nilc [oT 21],yS 2 23 (.fld 3) [oT 22],⟨none,(.ld none),[oT 23],some 24,3,true,[]⟩,yS 4 25 .mov [oT 1],yS 5 26 (.ixS 1) [oT 24,oT 25],⟨none,(.ld none),[oT 26],some 27,6,true,[]⟩,yS 7 28 .mov [oT 6],yS 8 29 .mov [oT 0],yS 9 30 .nilc [oT 29],yS 10 31 (.fld 0) [oT 30],yS 11 32 (.ld (some 3)) [oT 31],yS 12 33 .mov [oT 2],yS 13 34 .mov [oT 7],⟨none,.call,[oF 131,oT 32,oT 33,oT 34],some 35,14,false,[6,3]⟩,yS 15 36 (.ixS 1) [oT 27,oT 28],yN 16 (.st 1) [oT 36,oT 35]]))) (.reg [yS 0 37 (.bin .add 0) [oT 16,oC (nv 1)],yS 1 16 .mov [oT 37]])))))))
theorem xd219_ok:compF Tryz.prog 219=some ⟨38,[],xd219.er⟩:=by kernel_rfl
def g219 (m0 i1 c2:Value) (H:AH) (R:Value→AH→Prop):Prop:=
 @bindO (xpure .nilc [m0]) ⟨fun v9 =>
 @bindO (xpure (.fld 3) [v9]) ⟨fun v10 =>
 @bindO (xload none H [v10]) ⟨fun v11 =>
 @bindO (xpure (.ixS 1) [v11,i1]) ⟨fun v13 =>
 @bindO (xload none H [v13]) ⟨fun v14 =>
 @bindO (xpure .lenS [v14]) ⟨fun v15 =>
 @loopV1 (nv 0) H ⟨fun v16 H1 K1 =>
 @bindO (xbin .lss 0 v16 v15) ⟨fun v17 =>
 @condK v17 ⟨fun q=>if q=true then @bindO (xpure (.ixS 1) [v14,v16]) ⟨fun v19 =>
 @bindO (xload none H1 [v19]) ⟨fun v20 =>
 @bindO (xpure .nilc [m0]) ⟨fun v22 =>
 @bindO (xpure (.fld 3) [v22]) ⟨fun v23 =>
 @bindO (xload none H1 [v23]) ⟨fun v24 =>
 @bindO (xpure (.ixS 1) [v24,i1]) ⟨fun v26 =>
 @bindO (xload none H1 [v26]) ⟨fun v27 =>
 @bindO (xpure .nilc [m0]) ⟨fun v30 =>
 @bindO (xpure (.fld 0) [v30]) ⟨fun v31 =>
 @bindO (xload (some 3) H1 [v31]) ⟨fun v32 =>
 @cG 131 [v32,c2,v20] H1 ⟨fun v35 H2 =>
 (chkX [6,3] (⟨6,none,[v26],v27⟩ :: (⟨3,none,[v23],v24⟩ :: [])) H2∧@bindO (xpure (.ixS 1) [v27,v16]) ⟨fun v36 =>
 @bindP (xact (.st 1) H2 [v36,v35]) ⟨fun _v H3 =>
 @bindO (xbin .add 0 v16 (nv 1)) ⟨fun v37 =>
 K1 v37 H3⟩⟩⟩)⟩⟩⟩⟩⟩⟩⟩⟩⟩⟩⟩ else
 R (.tuple [].toArray) H1⟩⟩⟩⟩⟩⟩⟩⟩⟩
theorem g219_of {m0 i1 c2:Value} {H:AH} {R:Value→AH→Prop} (h:g219 m0 i1 c2 H R):FN Tryz.prog 219 [m0,i1,c2] H R:=
  FN.of_XD mixed xd219_ok (by kernel_rfl) (Nat.le_of_ble_eq_true rfl) (cast (by kernel_rfl) h)
def xd220:XD:=(.seq (.seq (.reg [yS 0 10 .mov [oT 2],yS 1 11 (.bin .eql 0) [oT 10,oC (nv 0)]]) (.cond (oT 11) .ret .skip)) (.seq (.reg [yS 0 12 .mov [oT 0],yS 1 13 .nilc [oT 12],yS 2 14 (.fld 3) [oT 13],yS 3 15 (.ld none) [oT 14],yS 4 16 .mov [oT 3],yS 5 17 (.ixS 1) [oT 15,oT 16],yS 6 18 (.ld none) [oT 17],yS 7 19 .lenS [oT 18],yS 8 20 .mov [oC (nv 0)]]) (.block 0 (.loop [20] 576460752302375680 (.seq (.reg [yS 0 21 (.bin .lss 0) [oT 20,oT 19]]) (.seq (.cond (oT 21) .skip (.exit 0)) (.seq (.block 1 (.seq (.reg [yS 0 22 .mov [oT 20],yS 1 23 (.ixS 1) [oT 18,oT 20],yS 2 24 (.ld none) [oT 23],yS 3 8 .mov [oT 22],yS 4 9 .mov [oT 24]]) (.seq (.reg [yS 0 25 .mov [oT 9],yS 1 26 (.bin .neq 0) [oT 25,oC (nv 0)]]) (.cond (oT 26) (.reg [yS 0 27 .mov [oT 0],yS 1 28 .nilc [oT 27],yS 2 29 (.fld 3) [oT 28],⟨none,(.ld none),[oT 29],some 30,3,true,[]⟩,yS 4 31 .mov [oT 1],yS 5 32 (.ixS 1) [oT 30,oT 31],⟨none,(.ld none),[oT 32],some 33,6,true,[]⟩,yS 7 34 .mov [oT 8],yS 8 35 .mov [oT 0],yS 9 36 .nilc [oT 35],yS 10 37 (.fld 0) [oT 36],⟨none,(.ld (some 3)),[oT 37],some 38,11,true,[]⟩,yS 12 39 .mov [oT 0],yS 13 40 .nilc [oT 39],yS 14 41 (.fld 3) [oT 40],⟨none,(.ld none),[oT 41],some 42,15,true,[]⟩,yS 16 43 .mov [oT 1],yS 17 44 (.ixS 1) [oT 42,oT 43],⟨none,(.ld none),[oT 44],some 45,18,true,[]⟩,yS 19 46 .mov [oT 8],yS 20 47 (.ixS 1) [oT 45,oT 46],⟨none,(.ld none),[oT 47],some 48,21,true,[]⟩,yS 22 49 .mov [oT 0],yS 23 50 .nilc [oT 49],yS 24 51 (.fld 0) [oT 50],yS 25 52 (.ld (some 3)) [oT 51],yS 26 53 .mov [oT 2],yS 27 54 .mov [oT 9],⟨none,.call,[oF 131,oT 52,oT 53,oT 54],some 55,28,false,[21,18,15,11,6,3]⟩,⟨none,.call,[oF 115,oT 38,oT 48,oT 55],some 56,29,false,[6,3]⟩,yS 30 57 (.ixS 1) [oT 33,oT 34],yN 31 (.st 1) [oT 57,oT 56]]) .skip)))) (.reg [yS 0 58 (.bin .add 0) [oT 20,oC (nv 1)],yS 1 20 .mov [oT 58]]))))))))
theorem xd220_ok:compF Tryz.prog 220=some ⟨59,[],xd220.er⟩:=by kernel_rfl
def g220 (m0 i1 c2 j3:Value) (H:AH) (R:Value→AH→Prop):Prop:=
 @bindO (xbin .eql 0 c2 (nv 0)) ⟨fun v11 =>
 @condK v11 ⟨fun q=>if q=true then R (.tuple [].toArray) H else
 @bindO (xpure .nilc [m0]) ⟨fun v13 =>
 @bindO (xpure (.fld 3) [v13]) ⟨fun v14 =>
 @bindO (xload none H [v14]) ⟨fun v15 =>
 @bindO (xpure (.ixS 1) [v15,j3]) ⟨fun v17 =>
 @bindO (xload none H [v17]) ⟨fun v18 =>
 @bindO (xpure .lenS [v18]) ⟨fun v19 =>
 @loopV1 (nv 0) H ⟨fun v20 H1 K1 =>
 @bindO (xbin .lss 0 v20 v19) ⟨fun v21 =>
 @condK v21 ⟨fun q=>if q=true then @bindO (xpure (.ixS 1) [v18,v20]) ⟨fun v23 =>
 @bindO (xload none H1 [v23]) ⟨fun v24 =>
 @bindO (xbin .neq 0 v24 (nv 0)) ⟨fun v26 =>
 @condK v26 ⟨fun q=>if q=true then @bindO (xpure .nilc [m0]) ⟨fun v28 =>
 @bindO (xpure (.fld 3) [v28]) ⟨fun v29 =>
 @bindO (xload none H1 [v29]) ⟨fun v30 =>
 @bindO (xpure (.ixS 1) [v30,i1]) ⟨fun v32 =>
 @bindO (xload none H1 [v32]) ⟨fun v33 =>
 @bindO (xpure .nilc [m0]) ⟨fun v36 =>
 @bindO (xpure (.fld 0) [v36]) ⟨fun v37 =>
 @bindO (xload (some 3) H1 [v37]) ⟨fun v38 =>
 @bindO (xpure .nilc [m0]) ⟨fun v40 =>
 @bindO (xpure (.fld 3) [v40]) ⟨fun v41 =>
 @bindO (xload none H1 [v41]) ⟨fun v42 =>
 @bindO (xpure (.ixS 1) [v42,i1]) ⟨fun v44 =>
 @bindO (xload none H1 [v44]) ⟨fun v45 =>
 @bindO (xpure (.ixS 1) [v45,v20]) ⟨fun v47 =>
 @bindO (xload none H1 [v47]) ⟨fun v48 =>
 @bindO (xpure .nilc [m0]) ⟨fun v50 =>
 @bindO (xpure (.fld 0) [v50]) ⟨fun v51 =>
 @bindO (xload (some 3) H1 [v51]) ⟨fun v52 =>
 @cG 131 [v52,c2,v24] H1 ⟨fun v55 H2 =>
 (chkX [21,18,15,11,6,3] (⟨21,none,[v47],v48⟩ :: (⟨18,none,[v44],v45⟩ :: (⟨15,none,[v41],v42⟩ :: (⟨11,(some 3),[v37],v38⟩ :: (⟨6,none,[v32],v33⟩ :: (⟨3,none,[v29],v30⟩ :: [])))))) H2∧@cG 115 [v38,v48,v55] H2 ⟨fun v56 H3 =>
 (chkX [6,3] (⟨21,none,[v47],v48⟩ :: (⟨18,none,[v44],v45⟩ :: (⟨15,none,[v41],v42⟩ :: (⟨11,(some 3),[v37],v38⟩ :: (⟨6,none,[v32],v33⟩ :: (⟨3,none,[v29],v30⟩ :: [])))))) H3∧@bindO (xpure (.ixS 1) [v33,v20]) ⟨fun v57 =>
 @bindP (xact (.st 1) H3 [v57,v56]) ⟨fun _v H4 =>
 @bindO (xbin .add 0 v20 (nv 1)) ⟨fun v58 =>
 K1 v58 H4⟩⟩⟩)⟩)⟩⟩⟩⟩⟩⟩⟩⟩⟩⟩⟩⟩⟩⟩⟩⟩⟩⟩⟩ else
 @bindO (xbin .add 0 v20 (nv 1)) ⟨fun v58a =>
 K1 v58a H1⟩⟩⟩⟩⟩ else
 R (.tuple [].toArray) H1⟩⟩⟩⟩⟩⟩⟩⟩⟩⟩⟩
theorem g220_of {m0 i1 c2 j3:Value} {H:AH} {R:Value→AH→Prop} (h:g220 m0 i1 c2 j3 H R):FN Tryz.prog 220 [m0,i1,c2,j3] H R:=
  FN.of_XD mixed xd220_ok (by kernel_rfl) (Nat.le_of_ble_eq_true rfl) (cast (by kernel_rfl) h)
def xd181:XD:=(.seq (.reg [yS 0 2 .mov [oC (.slice none 0 0)]]) (.seq (.seq (.reg [yS 0 3 .mov [oT 0],yS 1 4 (.bin .eql 2) [oT 3,oC (.slice none 0 0)]]) (.cond (oT 4) (.seq (.reg [yS 0 2 .mov [oC (.slice none 0 0)]]) .ret) .skip)) (.seq (.reg [yS 0 5 (.bsl [] 0 [] 31) [],yS 1 6 .mov [oT 0],yS 2 7 (.app 31 1 24) [oT 5,oT 6],yS 3 2 .mov [oT 7]]) .ret)))
theorem xd181_ok:compF Tryz.prog 181=some ⟨8,[(.tmp 2)],xd181.er⟩:=by kernel_rfl
def xd184:XD:=(.seq (.reg [yS 0 2 .mov [oC (.slice none 0 0)]]) (.seq (.reg [yS 0 3 .mov [oC (nv 0)]]) (.seq (.seq (.reg [yS 0 9 .mov [oT 0],yS 1 10 .lenS [oT 9],yS 2 11 .mov [oC (nv 0)]]) (.block 0 (.loop [3,11] 8386600 (.seq (.reg [yS 0 12 (.bin .lss 0) [oT 11,oT 10]]) (.seq (.cond (oT 12) .skip (.exit 0)) (.seq (.block 1 (.seq (.reg [yS 0 13 (.ixS 1) [oT 9,oT 11],yS 1 14 (.ld none) [oT 13],yS 2 5 .mov [oT 14]]) (.seq (.reg [yS 0 15 .mov [oT 3],yS 1 16 .mov [oT 5],yS 2 17 .lenS [oT 16],yS 3 18 (.bin .add 0) [oT 15,oT 17],yS 4 3 .mov [oT 18]]) (.seq (.reg [yS 0 19 .mov [oT 3],yS 1 20 (.bin .lss 0) [oT 19,oC (nv 0)]]) (.cond (oT 20) (.reg [yS 0 21 .bad [oC (.string (.mk #[108,101,110,32,111,117,116,32,111,102,32,114,97,110,103,101]))],yN 1 .bad [oT 21]]) .skip))))) (.reg [yS 0 22 (.bin .add 0) [oT 11,oC (nv 1)],yS 1 11 .mov [oT 22]]))))))) (.seq (.reg [yS 0 23 .mov [oT 3],yS 1 24 .call [oF 207,oC (.slice none 0 0),oT 23],yS 2 6 .mov [oT 24]]) (.seq (.seq (.reg [yS 0 25 .mov [oT 0],yS 1 26 .lenS [oT 25],yS 2 27 .mov [oC (nv 0)]]) (.block 2 (.loop [6,27] 34225520960 (.seq (.reg [yS 0 28 (.bin .lss 0) [oT 27,oT 26]]) (.seq (.cond (oT 28) .skip (.exit 2)) (.seq (.block 3 (.seq (.reg [yS 0 29 (.ixS 1) [oT 25,oT 27],yS 1 30 (.ld none) [oT 29],yS 2 8 .mov [oT 30]]) (.reg [yS 0 31 .mov [oT 6],yS 1 32 .mov [oT 8],yS 2 33 (.app 31 1 24) [oT 31,oT 32],yS 3 6 .mov [oT 33]]))) (.reg [yS 0 34 (.bin .add 0) [oT 27,oC (nv 1)],yS 1 27 .mov [oT 34]]))))))) (.seq (.reg [yS 0 35 .mov [oT 6],yS 1 2 .mov [oT 35]]) .ret))))))
theorem xd184_ok:compF Tryz.prog 184=some ⟨36,[(.tmp 2)],xd184.er⟩:=by kernel_rfl
def g184 (slices0:Value) (H:AH) (R:Value→AH→Prop):Prop:=
 @bindO (xpure .lenS [slices0]) ⟨fun v10 =>
 @loopV2 (nv 0) (nv 0) H ⟨fun size3 v11 H1 K1 =>
 @bindO (xbin .lss 0 v11 v10) ⟨fun v12 =>
 @condK v12 ⟨fun q=>if q=true then @bindO (xpure (.ixS 1) [slices0,v11]) ⟨fun v13 =>
 @bindO (xload none H1 [v13]) ⟨fun v14 =>
 @bindO (xpure .lenS [v14]) ⟨fun v17 =>
 @bindO (xbin .add 0 size3 v17) ⟨fun v18 =>
 @bindO (xbin .lss 0 v18 (nv 0)) ⟨fun v20 =>
 @condK v20 ⟨fun q=>if q=true then @bindO (xpure .bad [(.string (.mk #[108,101,110,32,111,117,116,32,111,102,32,114,97,110,103,101]))]) ⟨fun v21 =>
 @bindO (xpure .bad [v21]) ⟨fun _v =>
 @bindO (xbin .add 0 v11 (nv 1)) ⟨fun v22 =>
 K1 v18 v22 H1⟩⟩⟩ else
 @bindO (xbin .add 0 v11 (nv 1)) ⟨fun v22a =>
 K1 v18 v22a H1⟩⟩⟩⟩⟩⟩⟩ else
 @cG 207 [(.slice none 0 0),size3] H1 ⟨fun v24 H2 =>
 @bindO (xpure .lenS [slices0]) ⟨fun v26 =>
 @loopV2 v24 (nv 0) H2 ⟨fun newslice6 v27 H3 K2 =>
 @bindO (xbin .lss 0 v27 v26) ⟨fun v28 =>
 @condK v28 ⟨fun q=>if q=true then @bindO (xpure (.ixS 1) [slices0,v27]) ⟨fun v29 =>
 @bindO (xload none H3 [v29]) ⟨fun v30 =>
 @bindP (xact (.app 31 1 24) H3 [newslice6,v30]) ⟨fun v33 H4 =>
 @bindO (xbin .add 0 v27 (nv 1)) ⟨fun v34 =>
 K2 v33 v34 H4⟩⟩⟩⟩ else
 R newslice6 H3⟩⟩⟩⟩⟩⟩⟩⟩⟩
theorem g184_of {slices0:Value} {H:AH} {R:Value→AH→Prop} (h:g184 slices0 H R):FN Tryz.prog 184 [slices0] H R:=
  FN.of_XD mixed xd184_ok (by kernel_rfl) (Nat.le_of_ble_eq_true rfl) (cast (by kernel_rfl) h)
def xd122:XD:=(.seq (.reg [yS 0 2 .mov [oC (.slice none 0 0)]]) (.seq (.reg [yS 0 3 .mov [oC (nv 0)]]) (.seq (.seq (.reg [yS 0 9 .mov [oT 0],yS 1 10 .lenS [oT 9],yS 2 11 .mov [oC (nv 0)]]) (.block 0 (.loop [3,11] 8386600 (.seq (.reg [yS 0 12 (.bin .lss 0) [oT 11,oT 10]]) (.seq (.cond (oT 12) .skip (.exit 0)) (.seq (.block 1 (.seq (.reg [yS 0 13 (.ixS 1) [oT 9,oT 11],yS 1 14 (.ld none) [oT 13],yS 2 5 .mov [oT 14]]) (.seq (.reg [yS 0 15 .mov [oT 3],yS 1 16 .mov [oT 5],yS 2 17 .lenS [oT 16],yS 3 18 (.bin .add 0) [oT 15,oT 17],yS 4 3 .mov [oT 18]]) (.seq (.reg [yS 0 19 .mov [oT 3],yS 1 20 (.bin .lss 0) [oT 19,oC (nv 0)]]) (.cond (oT 20) (.reg [yS 0 21 .bad [oC (.string (.mk #[108,101,110,32,111,117,116,32,111,102,32,114,97,110,103,101]))],yN 1 .bad [oT 21]]) .skip))))) (.reg [yS 0 22 (.bin .add 0) [oT 11,oC (nv 1)],yS 1 11 .mov [oT 22]]))))))) (.seq (.reg [yS 0 23 .mov [oT 3],yS 1 24 .call [oF 183,oC (.slice none 0 0),oT 23],yS 2 6 .mov [oT 24]]) (.seq (.seq (.reg [yS 0 25 .mov [oT 0],yS 1 26 .lenS [oT 25],yS 2 27 .mov [oC (nv 0)]]) (.block 2 (.loop [6,27] 34225520960 (.seq (.reg [yS 0 28 (.bin .lss 0) [oT 27,oT 26]]) (.seq (.cond (oT 28) .skip (.exit 2)) (.seq (.block 3 (.seq (.reg [yS 0 29 (.ixS 1) [oT 25,oT 27],yS 1 30 (.ld none) [oT 29],yS 2 8 .mov [oT 30]]) (.reg [yS 0 31 .mov [oT 6],yS 1 32 .mov [oT 8],yS 2 33 (.app 3 1 8) [oT 31,oT 32],yS 3 6 .mov [oT 33]]))) (.reg [yS 0 34 (.bin .add 0) [oT 27,oC (nv 1)],yS 1 27 .mov [oT 34]]))))))) (.seq (.reg [yS 0 35 .mov [oT 6],yS 1 2 .mov [oT 35]]) .ret))))))
theorem xd122_ok:compF Tryz.prog 122=some ⟨36,[(.tmp 2)],xd122.er⟩:=by kernel_rfl
def xd146:XD:=(.seq (.reg [yS 0 4 .mov [oC (.bool false)]]) (.seq (.reg [yS 0 5 .mov [oT 0],yS 1 6 .mov [oT 1],yS 2 7 .call [oF 148,oT 5,oT 6],yS 3 8 (.bin .geq 0) [oT 7,oC (nv 0)],yS 4 4 .mov [oT 8]]) .ret))
theorem xd146_ok:compF Tryz.prog 146=some ⟨9,[(.tmp 4)],xd146.er⟩:=by kernel_rfl
def g146 (s0 f1:Value) (H:AH) (R:Value→AH→Prop):Prop:=
 @cG 148 [s0,f1] H ⟨fun v7 H1 =>
 @bindO (xbin .geq 0 v7 (nv 0)) ⟨fun v8 =>
 R v8 H1⟩⟩
theorem g146_of {s0 f1:Value} {H:AH} {R:Value→AH→Prop} (h:g146 s0 f1 H R):FN Tryz.prog 146 [s0,f1] H R:=
  FN.of_XD mixed xd146_ok (by kernel_rfl) (Nat.le_of_ble_eq_true rfl) (cast (by kernel_rfl) h)
def xd148:XD:=(.seq (.reg [yS 0 4 .mov [oC (nv 0)]]) (.seq (.seq (.reg [yS 0 6 .mov [oT 0],yS 1 7 .lenS [oT 6],yS 2 8 .mov [oC (nv 0)]]) (.block 0 (.loop [8] 524080 (.seq (.reg [yS 0 9 (.bin .lss 0) [oT 8,oT 7]]) (.seq (.cond (oT 9) .skip (.exit 0)) (.seq (.block 1 (.seq (.reg [yS 0 10 .mov [oT 8],yS 1 5 .mov [oT 10]]) (.seq (.reg [yS 0 11 .mov [oT 1],yS 1 12 .mov [oT 0],yS 2 13 .mov [oT 5],yS 3 14 (.ixS 1) [oT 12,oT 13],yS 4 15 (.ld none) [oT 14],yS 5 16 .call [oT 11,oT 15]]) (.cond (oT 16) (.seq (.reg [yS 0 17 .mov [oT 5],yS 1 4 .mov [oT 17]]) .ret) .skip)))) (.reg [yS 0 18 (.bin .add 0) [oT 8,oC (nv 1)],yS 1 8 .mov [oT 18]]))))))) (.seq (.reg [yS 0 4 .mov [oC (.int .i64 (-1))]]) .ret)))
theorem xd148_ok:compF Tryz.prog 148=some ⟨19,[(.tmp 4)],xd148.er⟩:=by kernel_rfl
def g148 (s0 f1:Value) (H:AH) (R:Value→AH→Prop):Prop:=
 @bindO (xpure .lenS [s0]) ⟨fun v7 =>
 @loopV1 (nv 0) H ⟨fun v8 H1 K1 =>
 @bindO (xbin .lss 0 v8 v7) ⟨fun v9 =>
 @condK v9 ⟨fun q=>if q=true then @bindO (xpure (.ixS 1) [s0,v8]) ⟨fun v14 =>
 @bindO (xload none H1 [v14]) ⟨fun v15 =>
 @callZ Tryz.prog [f1,v15] H1 ⟨fun v16 H2 =>
 @condK v16 ⟨fun q=>if q=true then R v8 H2 else
 @bindO (xbin .add 0 v8 (nv 1)) ⟨fun v18 =>
 K1 v18 H2⟩⟩⟩⟩⟩ else
 R (.int .i64 (-1)) H1⟩⟩⟩⟩
theorem g148_of {s0 f1:Value} {H:AH} {R:Value→AH→Prop} (h:g148 s0 f1 H R):FN Tryz.prog 148 [s0,f1] H R:=
  FN.of_XD mixed xd148_ok (by kernel_rfl) (Nat.le_of_ble_eq_true rfl) (cast (by kernel_rfl) h)
def xd207:XD:=(.seq (.reg [yS 0 4 .mov [oC (.slice none 0 0)]]) (.join [] 224 (.seq (.reg [yS 0 5 .mov [oT 1],yS 1 6 (.bin .lss 0) [oT 5,oC (nv 0)]]) (.cond (oT 6) (.reg [yS 0 7 .bad [oC (.string (.mk #[99,97,110,110,111,116,32,98,101,32,110,101,103,97,116,105,118,101]))],yN 1 .bad [oT 7]]) .skip)) (.join [0] 67108611 (.seq (.reg [yS 0 8 .mov [oT 1],yS 1 9 .mov [oT 0],yS 2 10 .capN [oT 9],yS 3 11 .mov [oT 0],yS 4 12 .lenS [oT 11],yS 5 13 (.bin .sub 0) [oT 10,oT 12],yS 6 14 (.bin .sub 0) [oT 8,oT 13],yS 7 1 .mov [oT 14]]) (.seq (.reg [yS 0 15 .mov [oT 1],yS 1 16 (.bin .gtr 0) [oT 15,oC (nv 0)]]) (.cond (oT 16) (.reg [yS 0 17 .mov [oT 0],yS 1 18 .mov [oT 0],yS 2 19 .capN [oT 18],yS 3 20 (.slS 1 false true) [oT 17,oT 19],yS 4 21 .mov [oT 1],yS 5 22 (.apz [(.slice none 0 0)] 1 24 31) [oT 20,oT 21],yS 6 23 .mov [oT 0],yS 7 24 .lenS [oT 23],yS 8 25 (.slS 1 false true) [oT 22,oT 24],yS 9 0 .mov [oT 25]]) .skip))) (.seq (.reg [yS 0 26 .mov [oT 0],yS 1 4 .mov [oT 26]]) .ret))))
theorem xd207_ok:compF Tryz.prog 207=some ⟨27,[(.tmp 4)],xd207.er⟩:=by kernel_rfl
def g207 (s0 n1:Value) (H:AH) (R:Value→AH→Prop):Prop:=
 @joinV0 (fun J1=>@bindO (xbin .lss 0 n1 (nv 0)) ⟨fun v6 =>
 @condK v6 ⟨fun q=>if q=true then @bindO (xpure .bad [(.string (.mk #[99,97,110,110,111,116,32,98,101,32,110,101,103,97,116,105,118,101]))]) ⟨fun v7 =>
 @bindO (xpure .bad [v7]) ⟨fun _v =>
 J1 H⟩⟩ else
 J1 H⟩⟩) ⟨fun H1 =>
 @joinV1 (fun J2=>@bindO (xpure .capN [s0]) ⟨fun v10 =>
 @bindO (xpure .lenS [s0]) ⟨fun v12 =>
 @bindO (xbin .sub 0 v10 v12) ⟨fun v13 =>
 @bindO (xbin .sub 0 n1 v13) ⟨fun v14 =>
 @bindO (xbin .gtr 0 v14 (nv 0)) ⟨fun v16 =>
 @condK v16 ⟨fun q=>if q=true then @bindO (xpure .capN [s0]) ⟨fun v19 =>
 @bindO (xpure (.slS 1 false true) [s0,v19]) ⟨fun v20 =>
 @bindP (xact (.apz [(.slice none 0 0)] 1 24 31) H1 [v20,v14]) ⟨fun v22 H2 =>
 @bindO (xpure .lenS [s0]) ⟨fun v24 =>
 @bindO (xpure (.slS 1 false true) [v22,v24]) ⟨fun v25 =>
 J2 v25 H2⟩⟩⟩⟩⟩ else
 J2 s0 H1⟩⟩⟩⟩⟩⟩) ⟨fun s0a H3 =>
 R s0a H3⟩⟩
theorem g207_of {s0 n1:Value} {H:AH} {R:Value→AH→Prop} (h:g207 s0 n1 H R):FN Tryz.prog 207 [s0,n1] H R:=
  FN.of_XD mixed xd207_ok (by kernel_rfl) (Nat.le_of_ble_eq_true rfl) (cast (by kernel_rfl) h)
end Go.Sim
