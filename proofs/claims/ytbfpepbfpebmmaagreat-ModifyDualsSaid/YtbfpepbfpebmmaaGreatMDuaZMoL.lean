/- Part of the proof: ZMoL. -/
import Derived.Test.YtbfpepbfpebmmaaGreatMDuaShSToXfS
import Derived.Test.YtbfpepbfpebmmaaGreatMDuaZShMixToZPfFieldI
import Derived.KernelRfl
set_option linter.all false
set_option maxRecDepth 100000
namespace Go.Sim
open Go Go.Proofs
def xd8:XD:=(.seq (.reg [yS 0 3 (.box 24) [oT 0],yS 1 4 (.box 24) [oT 1],yS 2 5 (.box 25) [oT 2],yS 3 6 .mov [oC (.bool false)]]) (.seq (.reg [yS 0 17 .call [oF 11],yS 1 7 .mov [oT 17]]) (.seq (.reg [yS 0 18 (.fld 0) [oT 3],yS 1 19 (.ld none) [oT 18],yS 2 20 (.fld 0) [oT 4],yN 3 (.st 1) [oT 20,oT 19]]) (.seq (.seq (.reg [yS 0 21 .mov [oT 7],yS 1 22 (.un .not) [oT 21]]) (.cond (oT 22) (.seq (.reg [yS 0 6 .mov [oC (.bool false)]]) .ret) .skip)) (.seq (.reg [yS 0 23 (.ld (some 4)) [oT 3],yS 1 24 .call [oF 12,oT 23],yS 2 8 (.new [(nv 0),(nv 0),(.slice none 0 0)] 29) [],yN 3 (.st 3) [oT 8,oT 24]]) (.seq (.reg [yS 0 25 (.ld (some 4)) [oT 4],yS 1 26 .call [oF 12,oT 25],yS 2 9 (.new [(nv 0),(nv 0),(.slice none 0 0)] 29) [],yN 3 (.st 3) [oT 9,oT 26]]) (.seq (.reg [yS 0 27 (.ld (some 3)) [oT 8],yS 1 28 .call [oF 47,oT 27],yS 2 10 (.new [(nv 0),(nv 0),(.slice none 0 0)] 29) [],yN 3 (.st 3) [oT 10,oT 28]]) (.seq (.reg [yS 0 29 (.ld (some 3)) [oT 9],yS 1 30 .call [oF 47,oT 29],yS 2 11 (.new [(nv 0),(nv 0),(.slice none 0 0)] 29) [],yN 3 (.st 3) [oT 11,oT 30]]) (.join [] 4611686016279908416 (.seq (.reg [yS 0 31 (.fld 1) [oT 8],yS 1 32 (.ld none) [oT 31],yS 2 33 (.bin .gtr 0) [oT 32,oC (nv 1)]]) (.cond (oT 33) (.seq (.reg [yS 0 34 (.ixA 6 1) [oT 5,oC (nv 0)],yS 1 35 (.ld none) [oT 34],yS 2 36 (.conv .i64) [oT 35],yS 3 37 (.fld 1) [oT 8],yS 4 38 (.ld none) [oT 37],yS 5 39 (.bin .rem 0) [oT 36,oT 38],yS 6 12 .mov [oT 39]]) (.seq (.reg [yS 0 40 (.ld (some 3)) [oT 10],yS 1 41 .mov [oT 12],⟨none,(.ld (some 3)),[oT 8],some 43,3,true,[]⟩,yS 4 44 .mov [oT 12],⟨none,.call,[oF 20,oT 40,oT 41],some 42,2,false,[3]⟩,yS 5 45 .call [oF 18,oT 43,oT 44],yS 6 46 (.prt (some 3) 0) [oT 45],yS 7 47 .call [oF 47,oT 46],yS 8 48 .call [oF 36,oT 42,oT 47],yS 9 49 (.un .not) [oT 48],yS 10 50 .mov [oT 49],yG (some (50,false)) 11 (some 51) (.ld (some 3)) [oT 10],yG (some (50,false)) 12 (some 52) .mov [oT 12],⟨(some (50,false)),(.ld (some 3)),[oT 8],some 54,14,true,[]⟩,yG (some (50,false)) 15 (some 55) .mov [oT 12],⟨(some (50,false)),.call,[oF 18,oT 51,oT 52],some 53,13,false,[14]⟩,yG (some (50,false)) 16 (some 56) .call [oF 20,oT 54,oT 55],yG (some (50,false)) 17 (some 57) (.prt (some 3) 0) [oT 56],yG (some (50,false)) 18 (some 58) .call [oF 47,oT 57],yG (some (50,false)) 19 (some 59) .call [oF 36,oT 53,oT 58],yG (some (50,false)) 20 (some 60) (.un .not) [oT 59],yS 21 61 .pick [oT 50,oC (.bool true),oT 60]]) (.cond (oT 61) (.seq (.reg [yS 0 6 .mov [oC (.bool false)]]) .ret) .skip))) .skip)) (.seq (.reg [yS 0 62 (.fld 1) [oT 8],⟨none,(.ld none),[oT 62],some 63,1,true,[]⟩,yS 2 64 (.ld (some 6)) [oT 5],⟨none,.call,[oF 14,oT 64],some 65,3,false,[1]⟩,yS 4 66 .call [oF 13,oT 63,oT 65],yS 5 13 .mov [oT 66]]) (.seq (.seq (.reg [yS 0 67 (.ld (some 3)) [oT 10],yS 1 68 (.ld (some 3)) [oT 11],⟨none,(.ld (some 3)),[oT 8],some 70,3,true,[]⟩,⟨none,(.ld (some 3)),[oT 9],some 71,4,true,[]⟩,⟨none,.call,[oF 22,oT 67,oT 68],some 69,2,false,[4,3]⟩,yS 5 72 .call [oF 22,oT 70,oT 71],yS 6 73 (.prt (some 3) 0) [oT 72],yS 7 74 .call [oF 47,oT 73],yS 8 75 .call [oF 36,oT 69,oT 74],yS 9 76 (.un .not) [oT 75],yS 10 77 .mov [oT 76],yG (some (77,false)) 11 (some 78) (.ld (some 3)) [oT 10],yG (some (77,false)) 12 (some 79) .mov [oT 13],⟨(some (77,false)),(.ld (some 3)),[oT 8],some 81,14,true,[]⟩,yG (some (77,false)) 15 (some 82) .mov [oT 13],⟨(some (77,false)),.call,[oF 30,oT 78,oT 79],some 80,13,false,[14]⟩,yG (some (77,false)) 16 (some 83) .call [oF 30,oT 81,oT 82],yG (some (77,false)) 17 (some 84) (.prt (some 3) 0) [oT 83],yG (some (77,false)) 18 (some 85) .call [oF 47,oT 84],yG (some (77,false)) 19 (some 86) .call [oF 36,oT 80,oT 85],yG (some (77,false)) 20 (some 87) (.un .not) [oT 86],yS 21 88 .pick [oT 77,oC (.bool true),oT 87],yS 22 89 .mov [oT 88],yG (some (89,false)) 23 (some 90) (.ld (some 3)) [oT 8],yG (some (89,false)) 27 (some 94) (.fld 1) [oT 8],⟨(some (89,false)),(.ld none),[oT 94],some 95,28,true,[]⟩,yG (some (89,false)) 29 (some 96) (.bin .add 0) [oT 95,oC (nv 1)],⟨(some (89,false)),.call,[oF 16,oT 90],some 91,24,false,[28]⟩,yG (some (89,false)) 25 (some 92) (.prt (some 3) 0) [oT 91],⟨(some (89,false)),.call,[oF 47,oT 92],some 93,26,false,[28]⟩,yG (some (89,false)) 30 (some 97) .call [oF 49,oT 96],yG (some (89,false)) 31 (some 98) .call [oF 48,oT 93,oT 97],yG (some (89,false)) 32 (some 99) (.un .not) [oT 98],yS 33 100 .pick [oT 89,oC (.bool true),oT 99]]) (.cond (oT 100) (.seq (.reg [yS 0 6 .mov [oC (.bool false)]]) .ret) .skip)) (.join [] 680564731306575726470290411870130061376 (.seq (.reg [yS 0 101 (.fld 0) [oT 8],yS 1 102 (.ld none) [oT 101],yS 2 103 (.bin .eql 0) [oT 102,oC (nv 2)]]) (.cond (oT 103) (.seq (.reg [yS 0 104 (.ld (some 3)) [oT 8],yS 1 105 .call [oF 28,oT 104],yS 2 106 (.prt (some 3) 0) [oT 105],yS 3 107 .call [oF 47,oT 106],yS 4 14 (.new [(nv 0),(nv 0),(.slice none 0 0)] 29) [],yN 5 (.st 3) [oT 14,oT 107]]) (.seq (.seq (.reg [⟨none,(.ld (some 3)),[oT 14],some 108,0,true,[]⟩,yS 1 109 (.fld 1) [oT 8],yS 2 110 (.ld none) [oT 109],⟨none,.call,[oF 49,oT 110],some 111,3,false,[0]⟩,yS 4 112 .call [oF 48,oT 108,oT 111],yS 5 113 (.un .not) [oT 112]]) (.cond (oT 113) (.seq (.reg [yS 0 6 .mov [oC (.bool false)]]) .ret) .skip)) (.seq (.reg [yS 0 15 .mov [oC (nv 0)]]) (.block 0 (.loop [15] 680543964654442787616235092878219575360 (.seq (.seq (.reg [yS 0 114 .mov [oT 15],yS 1 115 (.fld 2) [oT 10],yS 2 116 (.ld none) [oT 115],yS 3 117 .lenS [oT 116],yS 4 118 (.bin .lss 0) [oT 114,oT 117]]) (.cond (oT 118) .skip (.exit 0))) (.seq (.block 1 (.seq (.reg [yS 0 121 (.ld (some 3)) [oT 14],yS 1 122 (.fld 2) [oT 10],yS 2 123 (.ld none) [oT 122],yS 3 124 .mov [oT 15],yS 4 125 (.ixS 1) [oT 123,oT 124],yS 5 126 (.ld none) [oT 125],yS 6 127 .call [oF 48,oT 121,oT 126],yS 7 128 (.un .not) [oT 127]]) (.cond (oT 128) (.seq (.reg [yS 0 6 .mov [oC (.bool false)]]) .ret) .skip))) (.reg [yS 0 119 .mov [oT 15],yS 1 120 (.bin .add 0) [oT 119,oC (nv 1)],yS 2 15 .mov [oT 120]])))))))) .skip)) (.seq (.seq (.reg [yS 0 129 (.fld 1) [oT 8],yS 1 130 (.ld none) [oT 129],yS 2 131 (.fld 1) [oT 9],yS 3 132 (.ld none) [oT 131],yS 4 133 (.bin .neq 0) [oT 130,oT 132],yS 5 134 .mov [oT 133],yG (some (134,false)) 6 (some 135) (.fld 0) [oT 8],yG (some (134,false)) 7 (some 136) (.ld none) [oT 135],yG (some (134,false)) 8 (some 137) (.bin .rem 0) [oT 136,oC (nv 2)],yG (some (134,false)) 9 (some 138) (.bin .eql 0) [oT 137,oC (nv 1)],yS 10 139 .pick [oT 134,oC (.bool true),oT 138]]) (.cond (oT 139) (.seq (.reg [yS 0 140 .mov [oT 7],yS 1 6 .mov [oT 140]]) .ret) .skip)) (.seq (.reg [yS 0 141 (.ld (some 3)) [oT 11],yS 1 142 (.ld (some 3)) [oT 10],yS 4 145 (.fld 1) [oT 8],⟨none,(.ld none),[oT 145],some 146,5,true,[]⟩,yS 8 16 (.new [(nv 0),(nv 0),(.slice none 0 0),(nv 0)] 37) [],⟨none,.call,[oF 24,oT 141,oT 142],some 143,2,false,[5]⟩,yS 3 144 (.prt (some 3) 0) [oT 143],yS 6 147 .call [oF 50,oT 146],yS 7 148 .call [oF 30,oT 144,oT 147],yN 9 (.st 4) [oT 16,oT 148]]) (.seq (.reg [yS 0 149 .mov [oT 7],yS 1 150 .mov [oT 149],⟨(some (150,true)),(.ld (some 4)),[oT 16],some 151,2,true,[]⟩,yG (some (150,true)) 3 (some 152) (.ld (some 3)) [oT 8],yG (some (150,true)) 4 (some 153) (.ld (some 3)) [oT 9],⟨(some (150,true)),.call,[oF 24,oT 152,oT 153],some 154,5,false,[2]⟩,yG (some (150,true)) 6 (some 155) (.prt (some 3) 0) [oT 154],⟨(some (150,true)),.call,[oF 47,oT 155],some 156,7,false,[2]⟩,yG (some (150,true)) 8 (some 157) .call [oF 36,oT 151,oT 156],yS 9 158 .pick [oT 150,oT 157,oC (.bool false)],yS 10 6 .mov [oT 158]]) .ret)))))))))))))))
theorem xd8_ok:compF Tryz.prog 8=some ⟨159,[(.tmp 6)],xd8.er⟩:=by kernel_rfl
def g8 (x0 y1 z2:Value) (H:AH) (R:Value→AH→Prop):Prop:=
 @letH (H++[.cells (cellsL x0) 24 none false]) ⟨fun H1 =>
 @letH (H1++[.cells (cellsL y1) 24 none false]) ⟨fun H2 =>
 @letH (H2++[.cells (cellsL z2) 25 none false]) ⟨fun H3 =>
 @cG 11 [] H3 ⟨fun v17 H4 =>
 @bindO (xpure (.fld 0) [(.pointer (some ⟨H.length,0,none⟩))]) ⟨fun v18 =>
 @bindO (xload none H4 [v18]) ⟨fun v19 =>
 @bindO (xpure (.fld 0) [(.pointer (some ⟨H1.length,0,none⟩))]) ⟨fun v20 =>
 @bindP (xact (.st 1) H4 [v20,v19]) ⟨fun _v H5 =>
 @bindO (eun .not v17) ⟨fun v22 =>
 @condK v22 ⟨fun q=>if q=true then R (.bool false) H5 else
 @bindO (xload (some 4) H5 [(.pointer (some ⟨H.length,0,none⟩))]) ⟨fun v23 =>
 @cG 12 [v23] H5 ⟨fun v24 H6 =>
 @letH (H6++[.cells [(nv 0),(nv 0),(.slice none 0 0)] 29 none false]) ⟨fun H7 =>
 @bindP (xact (.st 3) H7 [(.pointer (some ⟨H6.length,0,none⟩)),v24]) ⟨fun _v H8 =>
 @bindO (xload (some 4) H8 [(.pointer (some ⟨H1.length,0,none⟩))]) ⟨fun v25 =>
 @cG 12 [v25] H8 ⟨fun v26 H9 =>
 @letH (H9++[.cells [(nv 0),(nv 0),(.slice none 0 0)] 29 none false]) ⟨fun H10 =>
 @bindP (xact (.st 3) H10 [(.pointer (some ⟨H9.length,0,none⟩)),v26]) ⟨fun _v H11 =>
 @bindO (xload (some 3) H11 [(.pointer (some ⟨H6.length,0,none⟩))]) ⟨fun v27 =>
 @cG 47 [v27] H11 ⟨fun v28 H12 =>
 @letH (H12++[.cells [(nv 0),(nv 0),(.slice none 0 0)] 29 none false]) ⟨fun H13 =>
 @bindP (xact (.st 3) H13 [(.pointer (some ⟨H12.length,0,none⟩)),v28]) ⟨fun _v H14 =>
 @bindO (xload (some 3) H14 [(.pointer (some ⟨H9.length,0,none⟩))]) ⟨fun v29 =>
 @cG 47 [v29] H14 ⟨fun v30 H15 =>
 @letH (H15++[.cells [(nv 0),(nv 0),(.slice none 0 0)] 29 none false]) ⟨fun H16 =>
 @bindP (xact (.st 3) H16 [(.pointer (some ⟨H15.length,0,none⟩)),v30]) ⟨fun _v H17 =>
 @joinV0 (fun J1=>@bindO (xpure (.fld 1) [(.pointer (some ⟨H6.length,0,none⟩))]) ⟨fun v31 =>
 @bindO (xload none H17 [v31]) ⟨fun v32 =>
 @bindO (xbin .gtr 0 v32 (nv 1)) ⟨fun v33 =>
 @condK v33 ⟨fun q=>if q=true then @bindO (xpure (.ixA 6 1) [(.pointer (some ⟨H2.length,0,none⟩)),(nv 0)]) ⟨fun v34 =>
 @bindO (xload none H17 [v34]) ⟨fun v35 =>
 @bindO (xpure (.conv .i64) [v35]) ⟨fun v36 =>
 @bindO (xpure (.fld 1) [(.pointer (some ⟨H6.length,0,none⟩))]) ⟨fun v37 =>
 @bindO (xload none H17 [v37]) ⟨fun v38 =>
 @bindO (xbin .rem 0 v36 v38) ⟨fun v39 =>
 @bindO (xload (some 3) H17 [(.pointer (some ⟨H12.length,0,none⟩))]) ⟨fun v40 =>
 @bindO (xload (some 3) H17 [(.pointer (some ⟨H6.length,0,none⟩))]) ⟨fun v43 =>
 @cG 20 [v40,v39] H17 ⟨fun v42 H18 =>
 (chkX [3] (⟨3,(some 3),[(.pointer (some ⟨H6.length,0,none⟩))],v43⟩ :: []) H18∧@cG 18 [v43,v39] H18 ⟨fun v45 H19 =>
 @bindO (xpure (.prt (some 3) 0) [v45]) ⟨fun v46 =>
 @cG 47 [v46] H19 ⟨fun v47 H20 =>
 @cG 36 [v42,v47] H20 ⟨fun v48 H21 =>
 @bindO (eun .not v48) ⟨fun v49 =>
 @guardJ (asNB v49) (fun J2=>@bindO (xload (some 3) H21 [(.pointer (some ⟨H12.length,0,none⟩))]) ⟨fun v51 =>
 J2 v51 H21⟩) H21 ⟨fun v51a H22 =>
 @guardJ (asNB v49) (fun J3=>J3 v39 H22) H22 ⟨fun v52 H23 =>
 @guardJ (asNB v49) (fun J4=>@bindO (xload (some 3) H23 [(.pointer (some ⟨H6.length,0,none⟩))]) ⟨fun v54 =>
 J4 v54 H23⟩) H23 ⟨fun v54a H24=>@letD (bif (asNB v49) then⟨14,(some 3),[(.pointer (some ⟨H6.length,0,none⟩))],v54a⟩ :: (⟨3,(some 3),[(.pointer (some ⟨H6.length,0,none⟩))],v43⟩ :: []) else (⟨3,(some 3),[(.pointer (some ⟨H6.length,0,none⟩))],v43⟩ :: [])) ⟨fun D1 =>
 @guardJ (asNB v49) (fun J5=>J5 v39 H24) H24 ⟨fun v55 H25 =>
 @guardJ (asNB v49) (fun J6=>@cG 18 [v51a,v52] H25 ⟨fun v53 H26 =>
 (chkX [14] D1 H26∧J6 v53 H26)⟩) H25 ⟨fun v53a H27 =>
 @guardJ (asNB v49) (fun J7=>@cG 20 [v54a,v55] H27 ⟨fun v56 H28 =>
 J7 v56 H28⟩) H27 ⟨fun v56a H29 =>
 @guardJ (asNB v49) (fun J8=>@bindO (xpure (.prt (some 3) 0) [v56a]) ⟨fun v57 =>
 J8 v57 H29⟩) H29 ⟨fun v57a H30 =>
 @guardJ (asNB v49) (fun J9=>@cG 47 [v57a] H30 ⟨fun v58 H31 =>
 J9 v58 H31⟩) H30 ⟨fun v58a H32 =>
 @guardJ (asNB v49) (fun J10=>@cG 36 [v53a,v58a] H32 ⟨fun v59 H33 =>
 J10 v59 H33⟩) H32 ⟨fun v59a H34 =>
 @guardJ (asNB v49) (fun J11=>@bindO (eun .not v59a) ⟨fun v60 =>
 J11 v60 H34⟩) H34 ⟨fun v60a H35 =>
 @pickK v49 (.bool true) v60a ⟨fun v61 =>
 @condK v61 ⟨fun q=>if q=true then R (.bool false) H35 else
 J1 H35⟩⟩⟩⟩⟩⟩⟩⟩⟩⟩⟩⟩⟩⟩⟩⟩⟩⟩)⟩⟩⟩⟩⟩⟩⟩⟩⟩ else
 J1 H17⟩⟩⟩⟩) ⟨fun H36 =>
 @bindO (xpure (.fld 1) [(.pointer (some ⟨H6.length,0,none⟩))]) ⟨fun v62 =>
 @bindO (xload none H36 [v62]) ⟨fun v63 =>
 @bindO (xload (some 6) H36 [(.pointer (some ⟨H2.length,0,none⟩))]) ⟨fun v64 =>
 @cG 14 [v64] H36 ⟨fun v65 H37 =>
 (chkX [1] (⟨1,none,[v62],v63⟩ :: []) H37∧@cG 13 [v63,v65] H37 ⟨fun v66 H38 =>
 @bindO (xload (some 3) H38 [(.pointer (some ⟨H12.length,0,none⟩))]) ⟨fun v67 =>
 @bindO (xload (some 3) H38 [(.pointer (some ⟨H15.length,0,none⟩))]) ⟨fun v68 =>
 @bindO (xload (some 3) H38 [(.pointer (some ⟨H6.length,0,none⟩))]) ⟨fun v70 =>
 @bindO (xload (some 3) H38 [(.pointer (some ⟨H9.length,0,none⟩))]) ⟨fun v71 =>
 @cG 22 [v67,v68] H38 ⟨fun v69 H39 =>
 (chkX [4,3] (⟨4,(some 3),[(.pointer (some ⟨H9.length,0,none⟩))],v71⟩ :: (⟨3,(some 3),[(.pointer (some ⟨H6.length,0,none⟩))],v70⟩ :: [])) H39∧@cG 22 [v70,v71] H39 ⟨fun v72 H40 =>
 @bindO (xpure (.prt (some 3) 0) [v72]) ⟨fun v73 =>
 @cG 47 [v73] H40 ⟨fun v74 H41 =>
 @cG 36 [v69,v74] H41 ⟨fun v75 H42 =>
 @bindO (eun .not v75) ⟨fun v76 =>
 @guardJ (asNB v76) (fun J12=>@bindO (xload (some 3) H42 [(.pointer (some ⟨H12.length,0,none⟩))]) ⟨fun v78 =>
 J12 v78 H42⟩) H42 ⟨fun v78a H43 =>
 @guardJ (asNB v76) (fun J13=>J13 v66 H43) H43 ⟨fun v79 H44 =>
 @guardJ (asNB v76) (fun J14=>@bindO (xload (some 3) H44 [(.pointer (some ⟨H6.length,0,none⟩))]) ⟨fun v81 =>
 J14 v81 H44⟩) H44 ⟨fun v81a H45=>@letD (bif (asNB v76) then⟨14,(some 3),[(.pointer (some ⟨H6.length,0,none⟩))],v81a⟩ :: (⟨4,(some 3),[(.pointer (some ⟨H9.length,0,none⟩))],v71⟩ :: (⟨3,(some 3),[(.pointer (some ⟨H6.length,0,none⟩))],v70⟩ :: [])) else (⟨4,(some 3),[(.pointer (some ⟨H9.length,0,none⟩))],v71⟩ :: (⟨3,(some 3),[(.pointer (some ⟨H6.length,0,none⟩))],v70⟩ :: []))) ⟨fun D2 =>
 @guardJ (asNB v76) (fun J15=>J15 v66 H45) H45 ⟨fun v82 H46 =>
 @guardJ (asNB v76) (fun J16=>@cG 30 [v78a,v79] H46 ⟨fun v80 H47 =>
 (chkX [14] D2 H47∧J16 v80 H47)⟩) H46 ⟨fun v80a H48 =>
 @guardJ (asNB v76) (fun J17=>@cG 30 [v81a,v82] H48 ⟨fun v83 H49 =>
 J17 v83 H49⟩) H48 ⟨fun v83a H50 =>
 @guardJ (asNB v76) (fun J18=>@bindO (xpure (.prt (some 3) 0) [v83a]) ⟨fun v84 =>
 J18 v84 H50⟩) H50 ⟨fun v84a H51 =>
 @guardJ (asNB v76) (fun J19=>@cG 47 [v84a] H51 ⟨fun v85 H52 =>
 J19 v85 H52⟩) H51 ⟨fun v85a H53 =>
 @guardJ (asNB v76) (fun J20=>@cG 36 [v80a,v85a] H53 ⟨fun v86 H54 =>
 J20 v86 H54⟩) H53 ⟨fun v86a H55 =>
 @guardJ (asNB v76) (fun J21=>@bindO (eun .not v86a) ⟨fun v87 =>
 J21 v87 H55⟩) H55 ⟨fun v87a H56 =>
 @pickK v76 (.bool true) v87a ⟨fun v88 =>
 @guardJ (asNB v88) (fun J22=>@bindO (xload (some 3) H56 [(.pointer (some ⟨H6.length,0,none⟩))]) ⟨fun v90 =>
 J22 v90 H56⟩) H56 ⟨fun v90a H57 =>
 @guardJ (asNB v88) (fun J23=>@bindO (xpure (.fld 1) [(.pointer (some ⟨H6.length,0,none⟩))]) ⟨fun v94 =>
 J23 v94 H57⟩) H57 ⟨fun v94a H58 =>
 @guardJ (asNB v88) (fun J24=>@bindO (xload none H58 [v94a]) ⟨fun v95 =>
 J24 v95 H58⟩) H58 ⟨fun v95a H59=>@letD (bif (asNB v88) then⟨28,none,[v94a],v95a⟩ :: D2 else D2) ⟨fun D3 =>
 @guardJ (asNB v88) (fun J25=>@bindO (xbin .add 0 v95a (nv 1)) ⟨fun v96 =>
 J25 v96 H59⟩) H59 ⟨fun v96a H60 =>
 @guardJ (asNB v88) (fun J26=>@cG 16 [v90a] H60 ⟨fun v91 H61 =>
 (chkX [28] D3 H61∧J26 v91 H61)⟩) H60 ⟨fun v91a H62 =>
 @guardJ (asNB v88) (fun J27=>@bindO (xpure (.prt (some 3) 0) [v91a]) ⟨fun v92 =>
 J27 v92 H62⟩) H62 ⟨fun v92a H63 =>
 @guardJ (asNB v88) (fun J28=>@cG 47 [v92a] H63 ⟨fun v93 H64 =>
 (chkX [28] D3 H64∧J28 v93 H64)⟩) H63 ⟨fun v93a H65 =>
 @guardJ (asNB v88) (fun J29=>@cG 49 [v96a] H65 ⟨fun v97 H66 =>
 J29 v97 H66⟩) H65 ⟨fun v97a H67 =>
 @guardJ (asNB v88) (fun J30=>@cG 48 [v93a,v97a] H67 ⟨fun v98 H68 =>
 J30 v98 H68⟩) H67 ⟨fun v98a H69 =>
 @guardJ (asNB v88) (fun J31=>@bindO (eun .not v98a) ⟨fun v99 =>
 J31 v99 H69⟩) H69 ⟨fun v99a H70 =>
 @pickK v88 (.bool true) v99a ⟨fun v100 =>
 @condK v100 ⟨fun q=>if q=true then R (.bool false) H70 else
 @joinV0 (fun J32=>@bindO (xpure (.fld 0) [(.pointer (some ⟨H6.length,0,none⟩))]) ⟨fun v101 =>
 @bindO (xload none H70 [v101]) ⟨fun v102 =>
 @bindO (xbin .eql 0 v102 (nv 2)) ⟨fun v103 =>
 @condK v103 ⟨fun q=>if q=true then @bindO (xload (some 3) H70 [(.pointer (some ⟨H6.length,0,none⟩))]) ⟨fun v104 =>
 @cG 28 [v104] H70 ⟨fun v105 H71 =>
 @bindO (xpure (.prt (some 3) 0) [v105]) ⟨fun v106 =>
 @cG 47 [v106] H71 ⟨fun v107 H72 =>
 @letH (H72++[.cells [(nv 0),(nv 0),(.slice none 0 0)] 29 none false]) ⟨fun H73 =>
 @bindP (xact (.st 3) H73 [(.pointer (some ⟨H72.length,0,none⟩)),v107]) ⟨fun _v H74 =>
 @bindO (xload (some 3) H74 [(.pointer (some ⟨H72.length,0,none⟩))]) ⟨fun v108 =>
 @bindO (xpure (.fld 1) [(.pointer (some ⟨H6.length,0,none⟩))]) ⟨fun v109 =>
 @bindO (xload none H74 [v109]) ⟨fun v110 =>
 @cG 49 [v110] H74 ⟨fun v111 H75 =>
 (chkX [0] (⟨0,(some 3),[(.pointer (some ⟨H72.length,0,none⟩))],v108⟩ :: []) H75∧@cG 48 [v108,v111] H75 ⟨fun v112 H76 =>
 @bindO (eun .not v112) ⟨fun v113 =>
 @condK v113 ⟨fun q=>if q=true then R (.bool false) H76 else
 @loopV1 (nv 0) H76 ⟨fun i15 H77 K33 =>
 @bindO (xpure (.fld 2) [(.pointer (some ⟨H12.length,0,none⟩))]) ⟨fun v115 =>
 @bindO (xload none H77 [v115]) ⟨fun v116 =>
 @bindO (xpure .lenS [v116]) ⟨fun v117 =>
 @bindO (xbin .lss 0 i15 v117) ⟨fun v118 =>
 @condK v118 ⟨fun q=>if q=true then @bindO (xload (some 3) H77 [(.pointer (some ⟨H72.length,0,none⟩))]) ⟨fun v121 =>
 @bindO (xpure (.fld 2) [(.pointer (some ⟨H12.length,0,none⟩))]) ⟨fun v122 =>
 @bindO (xload none H77 [v122]) ⟨fun v123 =>
 @bindO (xpure (.ixS 1) [v123,i15]) ⟨fun v125 =>
 @bindO (xload none H77 [v125]) ⟨fun v126 =>
 @cG 48 [v121,v126] H77 ⟨fun v127 H78 =>
 @bindO (eun .not v127) ⟨fun v128 =>
 @condK v128 ⟨fun q=>if q=true then R (.bool false) H78 else
 @bindO (xbin .add 0 i15 (nv 1)) ⟨fun v120 =>
 K33 v120 H78⟩⟩⟩⟩⟩⟩⟩⟩⟩ else
 J32 H77⟩⟩⟩⟩⟩⟩⟩⟩⟩)⟩⟩⟩⟩⟩⟩⟩⟩⟩⟩ else
 J32 H70⟩⟩⟩⟩) ⟨fun H79 =>
 @bindO (xpure (.fld 1) [(.pointer (some ⟨H6.length,0,none⟩))]) ⟨fun v129 =>
 @bindO (xload none H79 [v129]) ⟨fun v130 =>
 @bindO (xpure (.fld 1) [(.pointer (some ⟨H9.length,0,none⟩))]) ⟨fun v131 =>
 @bindO (xload none H79 [v131]) ⟨fun v132 =>
 @bindO (xbin .neq 0 v130 v132) ⟨fun v133 =>
 @guardJ (asNB v133) (fun J34=>@bindO (xpure (.fld 0) [(.pointer (some ⟨H6.length,0,none⟩))]) ⟨fun v135 =>
 J34 v135 H79⟩) H79 ⟨fun v135a H80 =>
 @guardJ (asNB v133) (fun J35=>@bindO (xload none H80 [v135a]) ⟨fun v136 =>
 J35 v136 H80⟩) H80 ⟨fun v136a H81 =>
 @guardJ (asNB v133) (fun J36=>@bindO (xbin .rem 0 v136a (nv 2)) ⟨fun v137 =>
 J36 v137 H81⟩) H81 ⟨fun v137a H82 =>
 @guardJ (asNB v133) (fun J37=>@bindO (xbin .eql 0 v137a (nv 1)) ⟨fun v138 =>
 J37 v138 H82⟩) H82 ⟨fun v138a H83 =>
 @pickK v133 (.bool true) v138a ⟨fun v139 =>
 @condK v139 ⟨fun q=>if q=true then R v17 H83 else
 @bindO (xload (some 3) H83 [(.pointer (some ⟨H15.length,0,none⟩))]) ⟨fun v141 =>
 @bindO (xload (some 3) H83 [(.pointer (some ⟨H12.length,0,none⟩))]) ⟨fun v142 =>
 @bindO (xpure (.fld 1) [(.pointer (some ⟨H6.length,0,none⟩))]) ⟨fun v145 =>
 @bindO (xload none H83 [v145]) ⟨fun v146 =>
 @letH (H83++[.cells [(nv 0),(nv 0),(.slice none 0 0),(nv 0)] 37 none false]) ⟨fun H84 =>
 @cG 24 [v141,v142] H84 ⟨fun v143 H85 =>
 (chkX [5] (⟨5,none,[v145],v146⟩ :: []) H85∧@bindO (xpure (.prt (some 3) 0) [v143]) ⟨fun v144 =>
 @cG 50 [v146] H85 ⟨fun v147 H86 =>
 @cG 30 [v144,v147] H86 ⟨fun v148 H87 =>
 @bindP (xact (.st 4) H87 [(.pointer (some ⟨H83.length,0,none⟩)),v148]) ⟨fun _v H88 =>
 @guardJ (asB v17) (fun J38=>@bindO (xload (some 4) H88 [(.pointer (some ⟨H83.length,0,none⟩))]) ⟨fun v151 =>
 J38 v151 H88⟩) H88 ⟨fun v151a H89=>@letD (bif (asB v17) then⟨2,(some 4),[(.pointer (some ⟨H83.length,0,none⟩))],v151a⟩ :: [] else []) ⟨fun D4 =>
 @guardJ (asB v17) (fun J39=>@bindO (xload (some 3) H89 [(.pointer (some ⟨H6.length,0,none⟩))]) ⟨fun v152 =>
 J39 v152 H89⟩) H89 ⟨fun v152a H90 =>
 @guardJ (asB v17) (fun J40=>@bindO (xload (some 3) H90 [(.pointer (some ⟨H9.length,0,none⟩))]) ⟨fun v153 =>
 J40 v153 H90⟩) H90 ⟨fun v153a H91 =>
 @guardJ (asB v17) (fun J41=>@cG 24 [v152a,v153a] H91 ⟨fun v154 H92 =>
 (chkX [2] D4 H92∧J41 v154 H92)⟩) H91 ⟨fun v154a H93 =>
 @guardJ (asB v17) (fun J42=>@bindO (xpure (.prt (some 3) 0) [v154a]) ⟨fun v155 =>
 J42 v155 H93⟩) H93 ⟨fun v155a H94 =>
 @guardJ (asB v17) (fun J43=>@cG 47 [v155a] H94 ⟨fun v156 H95 =>
 (chkX [2] D4 H95∧J43 v156 H95)⟩) H94 ⟨fun v156a H96 =>
 @guardJ (asB v17) (fun J44=>@cG 36 [v151a,v156a] H96 ⟨fun v157 H97 =>
 J44 v157 H97⟩) H96 ⟨fun v157a H98 =>
 @pickK v17 v157a (.bool false) ⟨fun v158 =>
 R v158 H98⟩⟩⟩⟩⟩⟩⟩⟩⟩⟩⟩⟩⟩)⟩⟩⟩⟩⟩⟩⟩⟩⟩⟩⟩⟩⟩⟩⟩⟩⟩⟩⟩⟩⟩⟩⟩⟩⟩⟩⟩⟩⟩⟩⟩⟩⟩⟩⟩⟩⟩⟩⟩⟩⟩⟩⟩⟩⟩⟩⟩⟩)⟩⟩⟩⟩⟩⟩)⟩⟩⟩⟩⟩⟩⟩⟩⟩⟩⟩⟩⟩⟩⟩⟩⟩⟩⟩⟩⟩⟩⟩⟩⟩⟩⟩⟩⟩⟩⟩
theorem g8_of {x0 y1 z2:Value} {H:AH} {R:Value→AH→Prop} (h:g8 x0 y1 z2 H R):FN Tryz.prog 8 [x0,y1,z2] H R:=
  FN.of_XD mixed xd8_ok (by kernel_rfl) (Nat.le_of_ble_eq_true rfl) (cast (by kernel_rfl) h)
end Go.Sim
