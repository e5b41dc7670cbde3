/- Part of the proof: SpG2, SpL9, SpL11. -/
import Derived.Test.YtgcoidbhikfdkaaSShSToShF
import Derived.Test.YtgcoidbhikfdkaaSShMix
import Derived.KernelRfl
import Derived.Test.YtgcoidbhikfdkaaSSpW3ToSpX10
set_option linter.all false
set_option maxRecDepth 100000
namespace Go.Sim
open Go Go.Proofs
def xd11 : XD := (.seq (.reg [yS 0 3 (.box 58) [oT 0], yS 1 5 (.box 99) [oT 2], yS 2 6 .mov [oC (.bool false)]]) (.seq (.reg [yS 0 21 .call [oF 29], yS 1 7 .mov [oT 21]]) (.seq (.seq (.reg [yS 0 22 .mov [oT 7], yS 1 23 (.un .not) [oT 22]]) (.cond (oT 23) (.seq (.reg [yS 0 6 .mov [oC (.bool false)]]) .ret) .skip)) (.seq (.reg [yS 0 24 (.ld (some 4)) [oT 3], yS 1 25 .call [oF 30, oT 24], yS 2 8 (.new [(nv 0), (nv 0), (.slice none 0 0), (nv 0), (.slice none 0 0)] 63) [], yN 3 (.st 5) [oT 8, oT 25]]) (.seq (.reg [yS 0 26 (.fld 0) [oT 8], yS 1 27 (.ld (some 3)) [oT 26], yS 2 9 (.new [(nv 0), (nv 0), (.slice none 0 0)] 61) [], yN 3 (.st 3) [oT 9, oT 27]]) (.seq (.reg [yS 0 28 (.fld 3) [oT 8], yS 1 29 (.ld none) [oT 28], yS 2 10 .mov [oT 29]]) (.seq (.reg [yS 0 30 (.fld 4) [oT 8], yS 1 31 (.ld none) [oT 30], yS 2 11 .mov [oT 31]]) (.seq (.reg [yS 0 32 (.ld (some 3)) [oT 9], yS 1 33 .mov [oT 10], yS 2 34 (.ixA 2 1) [oT 5, oC (nv 0)], yS 3 35 (.ld none) [oT 34], yS 4 36 (.conv .i64) [oT 35], yS 5 37 (.bin .rem 0) [oT 36, oC (nv 7)], yS 6 38 .mov [oT 1], yS 7 39 .call [oF 31, oT 32, oT 33, oT 37, oT 38], yS 8 12 .mov [oT 39]]) (.seq (.reg [yS 0 40 (.ld (some 3)) [oT 9], yS 1 41 .mov [oT 11], yS 2 42 .mov [oT 12], yS 3 43 .call [oF 48, oT 40, oT 41, oT 42], yS 4 13 .mov [oT 43]]) (.seq (.reg [yS 0 44 (.ld (some 3)) [oT 9], yS 1 45 .mov [oT 10], yS 2 46 .mov [oT 11], yS 3 47 .mov [oT 12], yS 4 48 .call [oF 50, oT 44, oT 45, oT 46, oT 47], yS 5 14 .mov [oT 48]]) (.seq (.seq (.reg [yS 0 49 .mov [oT 10], yS 1 50 .mov [oT 13], yS 2 51 .call [oF 56, oT 49, oT 50], yS 3 52 (.un .not) [oT 51], yS 4 53 .mov [oT 52], yG (some (53, false)) 5 (some 54) .mov [oT 10], yG (some (53, false)) 6 (some 55) .mov [oT 14], yG (some (53, false)) 7 (some 56) .call [oF 56, oT 54, oT 55], yG (some (53, false)) 8 (some 57) (.un .not) [oT 56], yS 9 58 .pick [oT 53, oC (.bool true), oT 57], yS 10 59 .mov [oT 58], yG (some (59, false)) 11 (some 60) .mov [oT 13], yG (some (59, false)) 12 (some 61) .lenS [oT 60], yG (some (59, false)) 13 (some 62) .mov [oT 14], yG (some (59, false)) 14 (some 63) .lenS [oT 62], yG (some (59, false)) 15 (some 64) (.bin .add 0) [oT 61, oT 63], yG (some (59, false)) 16 (some 65) (.ld (some 3)) [oT 9], yG (some (59, false)) 17 (some 66) .mov [oT 11], ⟨(some (59, false)), (.ld (some 3)), [oT 9], some 68, 19, true, []⟩, yG (some (59, false)) 20 (some 69) .mov [oT 12], ⟨(some (59, false)), .call, [oF 37, oT 65, oT 66], some 67, 18, false, [19]⟩, yG (some (59, false)) 21 (some 70) .call [oF 37, oT 68, oT 69], yG (some (59, false)) 22 (some 71) (.bin .add 0) [oT 67, oT 70], yG (some (59, false)) 23 (some 72) (.bin .neq 0) [oT 64, oT 71], yS 24 73 .pick [oT 59, oC (.bool true), oT 72]]) (.cond (oT 73) (.seq (.reg [yS 0 6 .mov [oC (.bool false)]]) .ret) .skip)) (.seq (.seq (.reg [yS 0 15 .mov [oC (nv 0)]]) (.block 0 (.loop [15] 309466120355413590143959104 (.seq (.seq (.reg [yS 0 74 .mov [oT 15], yS 1 75 .mov [oT 11], yS 2 76 .lenS [oT 75], yS 3 77 (.bin .lss 0) [oT 74, oT 76]]) (.cond (oT 77) .skip (.exit 0))) (.seq (.block 1 (.seq (.reg [yS 0 80 (.ld (some 3)) [oT 9], yS 1 81 .mov [oT 13], yS 2 82 .mov [oT 11], yS 3 83 .mov [oT 15], yS 4 84 (.ixS 1) [oT 82, oT 83], yS 5 85 (.ld none) [oT 84], yS 6 86 .call [oF 46, oT 80, oT 81, oT 85], yS 7 87 (.un .not) [oT 86]]) (.cond (oT 87) (.seq (.reg [yS 0 6 .mov [oC (.bool false)]]) .ret) .skip))) (.reg [yS 0 78 .mov [oT 15], yS 1 79 (.bin .add 0) [oT 78, oC (nv 1)], yS 2 15 .mov [oT 79]])))))) (.seq (.seq (.reg [yS 0 16 .mov [oC (nv 0)]]) (.block 2 (.loop [16] 5070292915903096260918088106048 (.seq (.seq (.reg [yS 0 88 .mov [oT 16], yS 1 89 .mov [oT 12], yS 2 90 .lenS [oT 89], yS 3 91 (.bin .lss 0) [oT 88, oT 90]]) (.cond (oT 91) .skip (.exit 2))) (.seq (.block 3 (.seq (.reg [yS 0 94 (.ld (some 3)) [oT 9], yS 1 95 .mov [oT 13], yS 2 96 .mov [oT 12], yS 3 97 .mov [oT 16], yS 4 98 (.ixS 1) [oT 96, oT 97], yS 5 99 (.ld none) [oT 98], yS 6 100 .call [oF 46, oT 94, oT 95, oT 99], yS 7 101 (.un .not) [oT 100]]) (.cond (oT 101) (.seq (.reg [yS 0 6 .mov [oC (.bool false)]]) .ret) .skip))) (.reg [yS 0 92 .mov [oT 16], yS 1 93 (.bin .add 0) [oT 92, oC (nv 1)], yS 2 16 .mov [oT 93]])))))) (.seq (.seq (.reg [yS 0 17 .mov [oC (nv 0)]]) (.block 4 (.loop [17] 85070586659632214952926045871129362496 (.seq (.seq (.reg [yS 0 102 .mov [oT 17], yS 1 103 .mov [oT 14], yS 2 104 .lenS [oT 103], yS 3 105 (.bin .lss 0) [oT 102, oT 104]]) (.cond (oT 105) .skip (.exit 4))) (.seq (.block 5 (.seq (.reg [yS 0 108 (.ld (some 3)) [oT 9], yS 1 109 .mov [oT 11], yS 2 110 .mov [oT 14], yS 3 111 .mov [oT 17], yS 4 112 (.ixS 1) [oT 110, oT 111], yS 5 113 (.ld none) [oT 112], yS 6 114 .call [oF 46, oT 108, oT 109, oT 113], yS 7 115 (.un .not) [oT 114], yS 8 116 .mov [oT 115], yG (some (116, false)) 9 (some 117) (.ld (some 3)) [oT 9], yG (some (116, false)) 10 (some 118) .mov [oT 12], yG (some (116, false)) 11 (some 119) .mov [oT 14], yG (some (116, false)) 12 (some 120) .mov [oT 17], yG (some (116, false)) 13 (some 121) (.ixS 1) [oT 119, oT 120], yG (some (116, false)) 14 (some 122) (.ld none) [oT 121], yG (some (116, false)) 15 (some 123) .call [oF 46, oT 117, oT 118, oT 122], yG (some (116, false)) 16 (some 124) (.un .not) [oT 123], yS 17 125 .pick [oT 116, oC (.bool true), oT 124]]) (.cond (oT 125) (.seq (.reg [yS 0 6 .mov [oC (.bool false)]]) .ret) .skip))) (.reg [yS 0 106 .mov [oT 17], yS 1 107 (.bin .add 0) [oT 106, oC (nv 1)], yS 2 17 .mov [oT 107]])))))) (.seq (.seq (.reg [yS 0 126 .mov [oT 14], ⟨none, (.ld (some 3)), [oT 9], some 127, 1, true, []⟩, yS 2 128 .mov [oT 10], ⟨none, (.ld (some 3)), [oT 9], some 129, 3, true, []⟩, yS 4 130 (.ld (some 3)) [oT 9], yS 5 131 .mov [oT 10], yS 6 132 .mov [oT 11], ⟨none, (.ld (some 3)), [oT 9], some 134, 8, true, []⟩, yS 9 135 .mov [oT 10], yS 10 136 .mov [oT 12], ⟨none, .call, [oF 38, oT 130, oT 131, oT 132], some 133, 7, false, [8, 3, 1]⟩, ⟨none, .call, [oF 38, oT 134, oT 135, oT 136], some 137, 11, false, [3, 1]⟩, ⟨none, .call, [oF 48, oT 129, oT 133, oT 137], some 138, 12, false, [1]⟩, yS 13 139 .call [oF 38, oT 127, oT 128, oT 138], yS 14 140 .call [oF 34, oT 126, oT 139], yS 15 141 (.un .not) [oT 140], yS 16 142 .mov [oT 141], yG (some (142, false)) 17 (some 143) .mov [oT 14], yG (some (142, false)) 18 (some 144) (.ld (some 3)) [oT 9], yG (some (142, false)) 19 (some 145) .mov [oT 10], yG (some (142, false)) 20 (some 146) .mov [oT 12], yG (some (142, false)) 21 (some 147) .mov [oT 11], yG (some (142, false)) 22 (some 148) .call [oF 50, oT 144, oT 145, oT 146, oT 147], yG (some (142, false)) 23 (some 149) .call [oF 34, oT 143, oT 148], yG (some (142, false)) 24 (some 150) (.un .not) [oT 149], yS 25 151 .pick [oT 142, oC (.bool true), oT 150], yS 26 152 .mov [oT 151], yG (some (152, false)) 27 (some 153) .mov [oT 13], yG (some (152, false)) 28 (some 154) (.ld (some 3)) [oT 9], yG (some (152, false)) 29 (some 155) .mov [oT 12], yG (some (152, false)) 30 (some 156) .mov [oT 11], yG (some (152, false)) 31 (some 157) .call [oF 48, oT 154, oT 155, oT 156], yG (some (152, false)) 32 (some 158) .call [oF 34, oT 153, oT 157], yG (some (152, false)) 33 (some 159) (.un .not) [oT 158], yS 34 160 .pick [oT 152, oC (.bool true), oT 159]]) (.cond (oT 160) (.seq (.reg [yS 0 6 .mov [oC (.bool false)]]) .ret) .skip)) (.seq (.reg [⟨none, (.ld (some 3)), [oT 9], some 161, 0, true, []⟩, yS 1 162 .mov [oT 11], ⟨none, (.ld (some 3)), [oT 9], some 163, 2, true, []⟩, yS 3 164 .mov [oT 10], yS 4 165 (.ixA 2 1) [oT 5, oC (nv 1)], ⟨none, (.ld none), [oT 165], some 166, 5, true, []⟩, yS 6 167 (.conv .i64) [oT 166], yS 7 168 (.bin .rem 0) [oT 167, oC (nv 4)], yS 8 169 (.ixA 2 1) [oT 5, oC (nv 1)], yS 9 170 (.ld none) [oT 169], yS 10 171 (.conv .u16) [oT 170], yS 11 172 (.bsl [(.int .u16 0)] 1 [(0, 1)] 100) [oT 171], yS 12 173 .mov [oT 1], ⟨none, (.app 100 1 2), [oT 172, oT 173], some 174, 13, false, [5, 2, 0]⟩, ⟨none, .call, [oF 31, oT 163, oT 164, oT 168, oT 174], some 175, 14, false, [0]⟩, yS 15 176 .call [oF 48, oT 161, oT 162, oT 175], yS 16 18 .mov [oT 176]]) (.seq (.reg [⟨none, (.ld (some 3)), [oT 9], some 177, 0, true, []⟩, yS 1 178 .mov [oT 11], yS 2 179 (.ld (some 3)) [oT 9], yS 3 180 .mov [oT 10], yS 4 181 .mov [oT 12], yS 5 182 .mov [oT 18], ⟨none, .call, [oF 50, oT 179, oT 180, oT 181, oT 182], some 183, 6, false, [0]⟩, yS 7 184 .call [oF 48, oT 177, oT 178, oT 183], yS 8 19 .mov [oT 184]]) (.seq (.reg [yS 0 185 (.ld (some 3)) [oT 9], yS 1 186 .mov [oT 10], yS 2 187 .mov [oT 13], yS 3 188 .mov [oT 18], yS 4 189 .call [oF 50, oT 185, oT 186, oT 187, oT 188], yS 5 20 .mov [oT 189]]) (.seq (.reg [yS 0 190 .mov [oT 7], yS 1 191 .mov [oT 190], yG (some (191, true)) 2 (some 192) .mov [oT 19], yG (some (191, true)) 3 (some 193) .mov [oT 20], yG (some (191, true)) 4 (some 194) .call [oF 34, oT 192, oT 193], yS 5 195 .pick [oT 191, oT 194, oC (.bool false)], yS 6 6 .mov [oT 195]]) .ret)))))))))))))))))))
theorem xd11_ok : compF Try.prog 11 = some ⟨196, [(.tmp 6)], xd11.er⟩ := by kernel_rfl
def g11 (x0 y1 z2 : Value) (H : AH) (R : Value → AH → Prop) : Prop :=
 @letH (H ++ [.cells (cellsL x0) 58 none false]) ⟨fun H1 =>
 @letH (H1 ++ [.cells (cellsL z2) 99 none false]) ⟨fun H2 =>
 @cG 29 [] H2 ⟨fun v21 H3 =>
 @bindO (eun .not v21) ⟨fun v23 =>
 @condK v23 ⟨fun q => if q = true then R (.bool false) H3 else
 @bindO (xload (some 4) H3 [(.pointer (some ⟨H.length, 0, none⟩))]) ⟨fun v24 =>
 @cG 30 [v24] H3 ⟨fun v25 H4 =>
 @letH (H4 ++ [.cells [(nv 0), (nv 0), (.slice none 0 0), (nv 0), (.slice none 0 0)] 63 none false]) ⟨fun H5 =>
 @bindP (xact (.st 5) H5 [(.pointer (some ⟨H4.length, 0, none⟩)), v25]) ⟨fun _v H6 =>
 @bindO (xpure (.fld 0) [(.pointer (some ⟨H4.length, 0, none⟩))]) ⟨fun v26 =>
 @bindO (xload (some 3) H6 [v26]) ⟨fun v27 =>
 @letH (H6 ++ [.cells [(nv 0), (nv 0), (.slice none 0 0)] 61 none false]) ⟨fun H7 =>
 @bindP (xact (.st 3) H7 [(.pointer (some ⟨H6.length, 0, none⟩)), v27]) ⟨fun _v H8 =>
 @bindO (xpure (.fld 3) [(.pointer (some ⟨H4.length, 0, none⟩))]) ⟨fun v28 =>
 @bindO (xload none H8 [v28]) ⟨fun v29 =>
 @bindO (xpure (.fld 4) [(.pointer (some ⟨H4.length, 0, none⟩))]) ⟨fun v30 =>
 @bindO (xload none H8 [v30]) ⟨fun v31 =>
 @bindO (xload (some 3) H8 [(.pointer (some ⟨H6.length, 0, none⟩))]) ⟨fun v32 =>
 @bindO (xpure (.ixA 2 1) [(.pointer (some ⟨H1.length, 0, none⟩)), (nv 0)]) ⟨fun v34 =>
 @bindO (xload none H8 [v34]) ⟨fun v35 =>
 @bindO (xpure (.conv .i64) [v35]) ⟨fun v36 =>
 @bindO (xbin .rem 0 v36 (nv 7)) ⟨fun v37 =>
 @cG 31 [v32, v29, v37, y1] H8 ⟨fun v39 H9 =>
 @bindO (xload (some 3) H9 [(.pointer (some ⟨H6.length, 0, none⟩))]) ⟨fun v40 =>
 @cG 48 [v40, v31, v39] H9 ⟨fun v43 H10 =>
 @bindO (xload (some 3) H10 [(.pointer (some ⟨H6.length, 0, none⟩))]) ⟨fun v44 =>
 @cG 50 [v44, v29, v31, v39] H10 ⟨fun v48 H11 =>
 @cG 56 [v29, v43] H11 ⟨fun v51 H12 =>
 @bindO (eun .not v51) ⟨fun v52 =>
 @guardJ (asNB v52) (fun J1 => J1 v29 H12) H12 ⟨fun v54 H13 =>
 @guardJ (asNB v52) (fun J2 => J2 v48 H13) H13 ⟨fun v55 H14 =>
 @guardJ (asNB v52) (fun J3 => @cG 56 [v54, v55] H14 ⟨fun v56 H15 =>
 J3 v56 H15⟩) H14 ⟨fun v56a H16 =>
 @guardJ (asNB v52) (fun J4 => @bindO (eun .not v56a) ⟨fun v57 =>
 J4 v57 H16⟩) H16 ⟨fun v57a H17 =>
 @pickK v52 (.bool true) v57a ⟨fun v58 =>
 @guardJ (asNB v58) (fun J5 => J5 v43 H17) H17 ⟨fun v60 H18 =>
 @guardJ (asNB v58) (fun J6 => @bindO (xpure .lenS [v60]) ⟨fun v61 =>
 J6 v61 H18⟩) H18 ⟨fun v61a H19 =>
 @guardJ (asNB v58) (fun J7 => J7 v48 H19) H19 ⟨fun v62 H20 =>
 @guardJ (asNB v58) (fun J8 => @bindO (xpure .lenS [v62]) ⟨fun v63 =>
 J8 v63 H20⟩) H20 ⟨fun v63a H21 =>
 @guardJ (asNB v58) (fun J9 => @bindO (xbin .add 0 v61a v63a) ⟨fun v64 =>
 J9 v64 H21⟩) H21 ⟨fun v64a H22 =>
 @guardJ (asNB v58) (fun J10 => @bindO (xload (some 3) H22 [(.pointer (some ⟨H6.length, 0, none⟩))]) ⟨fun v65 =>
 J10 v65 H22⟩) H22 ⟨fun v65a H23 =>
 @guardJ (asNB v58) (fun J11 => J11 v31 H23) H23 ⟨fun v66 H24 =>
 @guardJ (asNB v58) (fun J12 => @bindO (xload (some 3) H24 [(.pointer (some ⟨H6.length, 0, none⟩))]) ⟨fun v68 =>
 J12 v68 H24⟩) H24 ⟨fun v68a H25 => @letD (bif (asNB v58) then ⟨19, (some 3), [(.pointer (some ⟨H6.length, 0, none⟩))], v68a⟩ :: [] else []) ⟨fun D1 =>
 @guardJ (asNB v58) (fun J13 => J13 v39 H25) H25 ⟨fun v69 H26 =>
 @guardJ (asNB v58) (fun J14 => @cG 37 [v65a, v66] H26 ⟨fun v67 H27 =>
 (chkX [19] D1 H27 ∧ J14 v67 H27)⟩) H26 ⟨fun v67a H28 =>
 @guardJ (asNB v58) (fun J15 => @cG 37 [v68a, v69] H28 ⟨fun v70 H29 =>
 J15 v70 H29⟩) H28 ⟨fun v70a H30 =>
 @guardJ (asNB v58) (fun J16 => @bindO (xbin .add 0 v67a v70a) ⟨fun v71 =>
 J16 v71 H30⟩) H30 ⟨fun v71a H31 =>
 @guardJ (asNB v58) (fun J17 => @bindO (xbin .neq 0 v64a v71a) ⟨fun v72 =>
 J17 v72 H31⟩) H31 ⟨fun v72a H32 =>
 @pickK v58 (.bool true) v72a ⟨fun v73 =>
 @condK v73 ⟨fun q => if q = true then R (.bool false) H32 else
 @loopV1 (nv 0) H32 ⟨fun i15 H33 K18 =>
 @bindO (xpure .lenS [v31]) ⟨fun v76 =>
 @bindO (xbin .lss 0 i15 v76) ⟨fun v77 =>
 @condK v77 ⟨fun q => if q = true then @bindO (xload (some 3) H33 [(.pointer (some ⟨H6.length, 0, none⟩))]) ⟨fun v80 =>
 @bindO (xpure (.ixS 1) [v31, i15]) ⟨fun v84 =>
 @bindO (xload none H33 [v84]) ⟨fun v85 =>
 @cG 46 [v80, v43, v85] H33 ⟨fun v86 H34 =>
 @bindO (eun .not v86) ⟨fun v87 =>
 @condK v87 ⟨fun q => if q = true then R (.bool false) H34 else
 @bindO (xbin .add 0 i15 (nv 1)) ⟨fun v79 =>
 K18 v79 H34⟩⟩⟩⟩⟩⟩⟩ else
 @loopV1 (nv 0) H33 ⟨fun i16 H35 K19 =>
 @bindO (xpure .lenS [v39]) ⟨fun v90 =>
 @bindO (xbin .lss 0 i16 v90) ⟨fun v91 =>
 @condK v91 ⟨fun q => if q = true then @bindO (xload (some 3) H35 [(.pointer (some ⟨H6.length, 0, none⟩))]) ⟨fun v94 =>
 @bindO (xpure (.ixS 1) [v39, i16]) ⟨fun v98 =>
 @bindO (xload none H35 [v98]) ⟨fun v99 =>
 @cG 46 [v94, v43, v99] H35 ⟨fun v100 H36 =>
 @bindO (eun .not v100) ⟨fun v101 =>
 @condK v101 ⟨fun q => if q = true then R (.bool false) H36 else
 @bindO (xbin .add 0 i16 (nv 1)) ⟨fun v93 =>
 K19 v93 H36⟩⟩⟩⟩⟩⟩⟩ else
 @loopV1 (nv 0) H35 ⟨fun i17 H37 K20 =>
 @bindO (xpure .lenS [v48]) ⟨fun v104 =>
 @bindO (xbin .lss 0 i17 v104) ⟨fun v105 =>
 @condK v105 ⟨fun q => if q = true then @bindO (xload (some 3) H37 [(.pointer (some ⟨H6.length, 0, none⟩))]) ⟨fun v108 =>
 @bindO (xpure (.ixS 1) [v48, i17]) ⟨fun v112 =>
 @bindO (xload none H37 [v112]) ⟨fun v113 =>
 @cG 46 [v108, v31, v113] H37 ⟨fun v114 H38 =>
 @bindO (eun .not v114) ⟨fun v115 =>
 @guardJ (asNB v115) (fun J21 => @bindO (xload (some 3) H38 [(.pointer (some ⟨H6.length, 0, none⟩))]) ⟨fun v117 =>
 J21 v117 H38⟩) H38 ⟨fun v117a H39 =>
 @guardJ (asNB v115) (fun J22 => J22 v39 H39) H39 ⟨fun v118 H40 =>
 @guardJ (asNB v115) (fun J23 => J23 v48 H40) H40 ⟨fun v119 H41 =>
 @guardJ (asNB v115) (fun J24 => J24 i17 H41) H41 ⟨fun v120 H42 =>
 @guardJ (asNB v115) (fun J25 => @bindO (xpure (.ixS 1) [v119, v120]) ⟨fun v121 =>
 J25 v121 H42⟩) H42 ⟨fun v121a H43 =>
 @guardJ (asNB v115) (fun J26 => @bindO (xload none H43 [v121a]) ⟨fun v122 =>
 J26 v122 H43⟩) H43 ⟨fun v122a H44 =>
 @guardJ (asNB v115) (fun J27 => @cG 46 [v117a, v118, v122a] H44 ⟨fun v123 H45 =>
 J27 v123 H45⟩) H44 ⟨fun v123a H46 =>
 @guardJ (asNB v115) (fun J28 => @bindO (eun .not v123a) ⟨fun v124 =>
 J28 v124 H46⟩) H46 ⟨fun v124a H47 =>
 @pickK v115 (.bool true) v124a ⟨fun v125 =>
 @condK v125 ⟨fun q => if q = true then R (.bool false) H47 else
 @bindO (xbin .add 0 i17 (nv 1)) ⟨fun v107 =>
 K20 v107 H47⟩⟩⟩⟩⟩⟩⟩⟩⟩⟩⟩⟩⟩⟩⟩⟩ else
 @bindO (xload (some 3) H37 [(.pointer (some ⟨H6.length, 0, none⟩))]) ⟨fun v127 =>
 @bindO (xload (some 3) H37 [(.pointer (some ⟨H6.length, 0, none⟩))]) ⟨fun v129 =>
 @bindO (xload (some 3) H37 [(.pointer (some ⟨H6.length, 0, none⟩))]) ⟨fun v130 =>
 @bindO (xload (some 3) H37 [(.pointer (some ⟨H6.length, 0, none⟩))]) ⟨fun v134 =>
 @cG 38 [v130, v29, v31] H37 ⟨fun v133 H48 =>
 (chkX [8, 3, 1] (⟨8, (some 3), [(.pointer (some ⟨H6.length, 0, none⟩))], v134⟩ :: (⟨3, (some 3), [(.pointer (some ⟨H6.length, 0, none⟩))], v129⟩ :: (⟨1, (some 3), [(.pointer (some ⟨H6.length, 0, none⟩))], v127⟩ :: []))) H48 ∧ @cG 38 [v134, v29, v39] H48 ⟨fun v137 H49 =>
 (chkX [3, 1] (⟨8, (some 3), [(.pointer (some ⟨H6.length, 0, none⟩))], v134⟩ :: (⟨3, (some 3), [(.pointer (some ⟨H6.length, 0, none⟩))], v129⟩ :: (⟨1, (some 3), [(.pointer (some ⟨H6.length, 0, none⟩))], v127⟩ :: []))) H49 ∧ @cG 48 [v129, v133, v137] H49 ⟨fun v138 H50 =>
 (chkX [1] (⟨8, (some 3), [(.pointer (some ⟨H6.length, 0, none⟩))], v134⟩ :: (⟨3, (some 3), [(.pointer (some ⟨H6.length, 0, none⟩))], v129⟩ :: (⟨1, (some 3), [(.pointer (some ⟨H6.length, 0, none⟩))], v127⟩ :: []))) H50 ∧ @cG 38 [v127, v29, v138] H50 ⟨fun v139 H51 =>
 @cG 34 [v48, v139] H51 ⟨fun v140 H52 =>
 @bindO (eun .not v140) ⟨fun v141 =>
 @guardJ (asNB v141) (fun J29 => J29 v48 H52) H52 ⟨fun v143 H53 =>
 @guardJ (asNB v141) (fun J30 => @bindO (xload (some 3) H53 [(.pointer (some ⟨H6.length, 0, none⟩))]) ⟨fun v144 =>
 J30 v144 H53⟩) H53 ⟨fun v144a H54 =>
 @guardJ (asNB v141) (fun J31 => J31 v29 H54) H54 ⟨fun v145 H55 =>
 @guardJ (asNB v141) (fun J32 => J32 v39 H55) H55 ⟨fun v146 H56 =>
 @guardJ (asNB v141) (fun J33 => J33 v31 H56) H56 ⟨fun v147 H57 =>
 @guardJ (asNB v141) (fun J34 => @cG 50 [v144a, v145, v146, v147] H57 ⟨fun v148 H58 =>
 J34 v148 H58⟩) H57 ⟨fun v148a H59 =>
 @guardJ (asNB v141) (fun J35 => @cG 34 [v143, v148a] H59 ⟨fun v149 H60 =>
 J35 v149 H60⟩) H59 ⟨fun v149a H61 =>
 @guardJ (asNB v141) (fun J36 => @bindO (eun .not v149a) ⟨fun v150 =>
 J36 v150 H61⟩) H61 ⟨fun v150a H62 =>
 @pickK v141 (.bool true) v150a ⟨fun v151 =>
 @guardJ (asNB v151) (fun J37 => J37 v43 H62) H62 ⟨fun v153 H63 =>
 @guardJ (asNB v151) (fun J38 => @bindO (xload (some 3) H63 [(.pointer (some ⟨H6.length, 0, none⟩))]) ⟨fun v154 =>
 J38 v154 H63⟩) H63 ⟨fun v154a H64 =>
 @guardJ (asNB v151) (fun J39 => J39 v39 H64) H64 ⟨fun v155 H65 =>
 @guardJ (asNB v151) (fun J40 => J40 v31 H65) H65 ⟨fun v156 H66 =>
 @guardJ (asNB v151) (fun J41 => @cG 48 [v154a, v155, v156] H66 ⟨fun v157 H67 =>
 J41 v157 H67⟩) H66 ⟨fun v157a H68 =>
 @guardJ (asNB v151) (fun J42 => @cG 34 [v153, v157a] H68 ⟨fun v158 H69 =>
 J42 v158 H69⟩) H68 ⟨fun v158a H70 =>
 @guardJ (asNB v151) (fun J43 => @bindO (eun .not v158a) ⟨fun v159 =>
 J43 v159 H70⟩) H70 ⟨fun v159a H71 =>
 @pickK v151 (.bool true) v159a ⟨fun v160 =>
 @condK v160 ⟨fun q => if q = true then R (.bool false) H71 else
 @bindO (xload (some 3) H71 [(.pointer (some ⟨H6.length, 0, none⟩))]) ⟨fun v161 =>
 @bindO (xload (some 3) H71 [(.pointer (some ⟨H6.length, 0, none⟩))]) ⟨fun v163 =>
 @bindO (xpure (.ixA 2 1) [(.pointer (some ⟨H1.length, 0, none⟩)), (nv 1)]) ⟨fun v165 =>
 @bindO (xload none H71 [v165]) ⟨fun v166 =>
 @bindO (xpure (.conv .i64) [v166]) ⟨fun v167 =>
 @bindO (xbin .rem 0 v167 (nv 4)) ⟨fun v168 =>
 @bindO (xpure (.ixA 2 1) [(.pointer (some ⟨H1.length, 0, none⟩)), (nv 1)]) ⟨fun v169 =>
 @bindO (xload none H71 [v169]) ⟨fun v170 =>
 @bindO (xpure (.conv .u16) [v170]) ⟨fun v171 =>
 @bindL (xfill [(.int .u16 0)] [(0, 1)] [v171]) ⟨fun cv172 => @letH (H71 ++ [.cells cv172 100 none false]) ⟨fun H72 =>
 @bindP (xact (.app 100 1 2) H72 [(.slice (some ⟨H71.length, 0, none⟩) 1 1), y1]) ⟨fun v174 H73 =>
 (chkX [5, 2, 0] (⟨5, none, [v165], v166⟩ :: (⟨2, (some 3), [(.pointer (some ⟨H6.length, 0, none⟩))], v163⟩ :: (⟨0, (some 3), [(.pointer (some ⟨H6.length, 0, none⟩))], v161⟩ :: []))) H73 ∧ @cG 31 [v163, v29, v168, v174] H73 ⟨fun v175 H74 =>
 (chkX [0] (⟨5, none, [v165], v166⟩ :: (⟨2, (some 3), [(.pointer (some ⟨H6.length, 0, none⟩))], v163⟩ :: (⟨0, (some 3), [(.pointer (some ⟨H6.length, 0, none⟩))], v161⟩ :: []))) H74 ∧ @cG 48 [v161, v31, v175] H74 ⟨fun v176 H75 =>
 @bindO (xload (some 3) H75 [(.pointer (some ⟨H6.length, 0, none⟩))]) ⟨fun v177 =>
 @bindO (xload (some 3) H75 [(.pointer (some ⟨H6.length, 0, none⟩))]) ⟨fun v179 =>
 @cG 50 [v179, v29, v39, v176] H75 ⟨fun v183 H76 =>
 (chkX [0] (⟨0, (some 3), [(.pointer (some ⟨H6.length, 0, none⟩))], v177⟩ :: []) H76 ∧ @cG 48 [v177, v31, v183] H76 ⟨fun v184 H77 =>
 @bindO (xload (some 3) H77 [(.pointer (some ⟨H6.length, 0, none⟩))]) ⟨fun v185 =>
 @cG 50 [v185, v29, v43, v176] H77 ⟨fun v189 H78 =>
 @guardJ (asB v21) (fun J44 => J44 v184 H78) H78 ⟨fun v192 H79 =>
 @guardJ (asB v21) (fun J45 => J45 v189 H79) H79 ⟨fun v193 H80 =>
 @guardJ (asB v21) (fun J46 => @cG 34 [v192, v193] H80 ⟨fun v194 H81 =>
 J46 v194 H81⟩) H80 ⟨fun v194a H82 =>
 @pickK v21 v194a (.bool false) ⟨fun v195 =>
 R v195 H82⟩⟩⟩⟩⟩⟩⟩)⟩⟩⟩⟩)⟩)⟩⟩⟩⟩⟩⟩⟩⟩⟩⟩⟩⟩⟩⟩⟩⟩⟩⟩⟩⟩⟩⟩⟩⟩⟩⟩⟩⟩⟩⟩⟩⟩⟩)⟩)⟩)⟩⟩⟩⟩⟩⟩⟩⟩⟩⟩⟩⟩⟩⟩⟩⟩⟩⟩⟩⟩⟩⟩⟩⟩⟩⟩⟩⟩⟩⟩⟩⟩⟩⟩⟩⟩⟩⟩⟩⟩⟩⟩⟩⟩⟩⟩⟩⟩⟩⟩⟩⟩⟩⟩⟩⟩⟩⟩⟩⟩⟩⟩⟩⟩⟩⟩⟩
theorem g11_of {x0 y1 z2 : Value} {H : AH} {R : Value → AH → Prop} (h : g11 x0 y1 z2 H R) : FN Try.prog 11 [x0, y1, z2] H R :=
  FN.of_XD mixed xd11_ok (by kernel_rfl) (Nat.le_of_ble_eq_true rfl) (cast (by kernel_rfl) h)
end Go.Sim

namespace Go.Sim
open Go Go.Proofs
section
variable {α : Type} [Fl α] [DecidableEq α] {cd : α → Nat} {p e b c q : Nat} {blk : AB} {H : AH}
theorem evr_nv (xss : List (List α)) : evr cd xss = (xss.map fun l => l.map cd).map fun l => l.map nv := by simp [evs, Function.comp_def]
theorem alike_e {v w : Value} {A B : List (List α)} (hv : RowR H v (evr cd A)) (hw : RowR H w (evr cd B)) (hA : A.length ≤ 1000) (hA2 : ∀ x ∈ A, x.length ≤ 1000) (he : A = B) : FN Try.prog 34 [v, w] H (fun r H' => r = .bool true ∧ H' = H) := by
  subst he
  rw [evr_nv] at hv hw
  refine (alike_c hv hw (by rw [List.length_map]; omega) (fun l hl => by obtain ⟨x, hx, rfl⟩ := List.mem_map.1 hl; rw [List.length_map]; have := hA2 x hx; omega)).mono ?_
  rintro r H' ⟨rfl, rfl⟩
  exact ⟨by simp, rfl⟩
end
section
variable {α : Type} [Fl α] [DecidableEq α]
end
abbrev rawv (k n m : Nat) (x : Value) : Value := .agg [.int .u8 (k : Int), .int .u8 (n : Int), .int .u8 (m : Int), x].toArray
end Go.Sim

namespace Go.Sim
open Go Go.Proofs
section
variable {α : Type} [Fl α] [DecidableEq α] {cd : α → Nat} {p e b c q : Nat} {blk : AB} {H : AH}
theorem has_e (F : FOK α cd p e b c q blk) {v w : Value} {n : Nat} {rows : List (List α)} {xs : List α} (hb : H[b]? = some blk) (hv : RowR H v (evr cd rows)) (hw : Row H w (evs cd xs)) (hl : ∀ x ∈ rows, x.length = n) (hx : xs.length = n) (hR : rows.length ≤ 400) (hn : n ≤ 1000) (hn0 : 0 < n) (hs : LSpan rows (toV xs)) :
    FN Try.prog 46 [fldv p e b e c, v, w] H (fun r H' => r = .bool true ∧ H' = H) := by
  have := has_p F hb hv hw hl hx hR hn hn0
  rw [has_count hl hx, (lhas_iff hl hx).2 hs] at this
  exact this
theorem ljoin_len {n : Nat} {A B : List (List α)} (hA : ∀ x ∈ A, x.length = n) (hB : ∀ x ∈ B, x.length = n) : (∀ x ∈ ljoin A B, x.length = n) ∧ (ljoin A B).length ≤ A.length + B.length := by
  obtain ⟨h1, _, h3⟩ := lreduce_red (app_len hA hB)
  exact ⟨h1.piv.1, by rw [List.length_append] at h3; exact h3⟩
theorem lmeet_len {n : Nat} {A B : List (List α)} (hA : ∀ x ∈ A, x.length = n) (hB : ∀ x ∈ B, x.length = n) : (∀ x ∈ lmeet n A B, x.length = n) ∧ (lmeet n A B).length ≤ n :=
  ⟨(lmeet_red hA hB).1.piv.1, lkernel_length n _⟩
end
theorem law11 (hF : FldOK) (hE : ExOK) {H : AH} {x y : Value} {us ws : List Nat} {k n m z0 z1 : Nat} (hk : k < 256) (hn : n < 256) (hm : m < 256) (hz0 : z0 < 256) (hz1 : z1 < 256) (hus : ∀ u ∈ us, u < 65536) (hx : Row H x (us.map uv)) (hws : ∀ u ∈ ws, u < 65536) (hy : RowX H y (ws.map uv)) (hwl : (1 + ws.length) * 2 ≤ 140737488355328) :
    FN Try.prog 11 [rawv k n m x, y, .agg [.int .u8 (z0 : Int), .int .u8 (z1 : Int)].toArray] H (fun r H' => r = .bool true ∧ H' = H) := by
  refine FN.pre0 (g11_of ?_) rfl
  unfold g11
  have hp1 := Pre.new H [.cells [.int .u8 (k : Int), .int .u8 (n : Int), .int .u8 (m : Int), x] 58 none false, .cells [.int .u8 (z0 : Int), .int .u8 (z1 : Int)] 99 none false]
  have w0 : IntKind.i64.wrap (z0 : Int) = (z0 : Int) := wrap64 (by omega) (by omega)
  have w1 : IntKind.i64.wrap (z1 : Int) = (z1 : Int) := wrap64 (by omega) (by omega)
  simp (disch := omega) only [zA, zB, zC, zD, zF, zG, zH, ↓reduceIte]
  refine FZ.use (hE _) ?_
  simp (disch := omega) only [zA, zB, zC, zD, zF, zG, zH, ↓reduceIte]
  refine FZ.mono (made_c hF hk hn hm hus (hx.pre hp1)) ?_
  rintro r H3 ⟨hp3, α, i1, i2, cd, p, e, b, c, q, blk, hb, F, hq, rfl_⟩
  obtain ⟨v, n', A, rfl, hn0, hn8, hA6, hAn, hv⟩ := rfl_
  have hp03 := hp1.trans hp3
  have hz3 := hp3.get (b := H.length + 1) (x := .cells [.int .u8 (z0 : Int), .int .u8 (z1 : Int)] 99 none false) (by simp)
  have hone : one v = true := by obtain ⟨_, h, _⟩ := hv; exact h.1.one
  have s5 := stB_five (H := H3 ++ [.cells [nv 0, nv 0, .slice none 0 0, nv 0, .slice none 0 0] 63 none false]) (bl := H3.length) (x := nv p) (y := nv e) (z := .slice (some ⟨b, 0, none⟩) e c) (u := nv n') (v := v) (c0 := nv 0) (c1 := nv 0) (c2 := .slice none 0 0) (c3 := nv 0) (c4 := .slice none 0 0) (e := 63) (op := none) rfl rfl rfl rfl hone
  rw [set_last] at s5
  have s3 := stB_three (H := H3 ++ [mbx p e b c n' v, .cells [nv 0, nv 0, .slice none 0 0] 61 none false]) (bl := H3.length + 1) (x := nv p) (y := nv e) (z := .slice (some ⟨b, 0, none⟩) e c) (c0 := nv 0) (c1 := nv 0) (c2 := .slice none 0 0) (e := 61) (op := none) rfl rfl rfl
  rw [set_new] at s3
  simp only [List.set_cons_succ, List.set_cons_zero] at s3
  have hpM := Pre.new H3 [mbx p e b c n' v, fbx p e b c]
  have hfM : (H3 ++ [mbx p e b c n' v, fbx p e b c])[H3.length + 1]? = some (fbx p e b c) := by simp
  have hzM := hpM.get hz3
  have hm7 : z0 % 7 < 7 := Nat.mod_lt _ (by omega)
  have hm4 : z1 % 4 < 4 := Nat.mod_lt _ (by omega)
  simp (disch := omega) only [zA, zB, zC, zD, zF, zG, zH, ↓reduceIte, s5, s3, hzM, w0]
  have hpM0 := hp03.trans hpM
  generalize hHM : H3 ++ [mbx p e b c n' v, fbx p e b c] = HM at *
  refine FZ.mono (rows_c F hws (hpM.get hb) (hy.1.pre hpM0) (n := n') (m := z0 % 7) (by omega) (by omega) hn0) ?_
  rintro v39 H9 ⟨hp9, B, hBl, hBn, hB⟩
  have hB9 := hB.acc.rowR
  have hf9 := hp9.get hfM
  have hb9 := hp9.get (hpM.get hb)
  have hA9 := (hv.pre hpM).pre hp9
  simp (disch := omega) only [zA, zB, zC, zD, zF, zG, zH, ↓reduceIte, hf9]
  refine FZ.mono (join_p F hb9 hA9 hB9 hAn hBn (by omega) (by omega) (by omega) hn0) ?_
  rintro v43 H10 ⟨hp10, hJ⟩
  have hf10 := hp10.get hf9
  have hb10 := hp10.get hb9
  simp (disch := omega) only [zA, zB, zC, zD, zF, zG, zH, ↓reduceIte, hf10]
  refine FZ.mono (meet_p F hb10 (hA9.pre hp10) (hB9.pre hp10) hAn hBn (by omega) (by omega) (by omega) hn0) ?_
  rintro v48 H11 ⟨hp11, hM⟩
  change RowR H10 v43 (evr cd (ljoin A B)) at hJ
  obtain ⟨j1, j2⟩ := ljoin_red hAn hBn
  obtain ⟨m1, m2⟩ := lmeet_red hAn hBn
  obtain ⟨jw, jl⟩ := ljoin_len hAn hBn
  obtain ⟨mw, ml⟩ := lmeet_len hAn hBn
  have dim := dim_formula hAn hBn
  have hf11 := hp11.get hf10
  have hb11 := hp11.get hb10
  have hJ11 := hJ.pre hp11
  have hA11 := (hA9.pre hp10).pre hp11
  have hB11 := (hB9.pre hp10).pre hp11
  simp (disch := omega) only [zA, zB, zC, zD, zF, zG, zH, ↓reduceIte]
  refine FZ.use (reduced_c F hJ11 j1 (by omega) (by omega)) ?_
  simp (disch := omega) only [zA, zB, zC, zD, zF, zG, zH, ↓reduceIte]
  refine FZ.use (reduced_c F hM m1 (by omega) (by omega)) ?_
  obtain ⟨js, hjs, hjsl, hjr⟩ := hJ11.open
  obtain ⟨ms, hms, hmsl, hmr⟩ := hM.open
  obtain ⟨jlen, _, _, _⟩ := hjs.allV
  obtain ⟨mlen, _, _, _⟩ := hms.allV
  simp (disch := omega) only [zA, zB, zC, zD, zF, zG, zH, ↓reduceIte, jlen, hjsl, mlen, hmsl, hf11]
  refine FZ.use (rank_p F hb11 hA11 hAn (by omega) (by omega) hn0) ?_
  simp (disch := omega) only [zA, zB, zC, zD, zF, zG, zH, ↓reduceIte, hf11]
  refine FZ.use (rank_p F hb11 hB11 hBn (by omega) (by omega) hn0) ?_
  simp (disch := omega) only [zA, zB, zC, zD, zF, zG, zH, ↓reduceIte, dim]
  obtain ⟨as', has, hasl, har⟩ := hA11.open
  obtain ⟨bs, hbs, hbsl, hbr⟩ := hB11.open
  obtain ⟨alen, ai, ad, _⟩ := has.allV
  obtain ⟨blen, bi, bd, _⟩ := hbs.allV
  obtain ⟨_, mi, md, _⟩ := hms.allV
  refine loopV1.nat A.length (fun i v H' => v = nv i ∧ H' = H11) ⟨rfl, rfl⟩ ?_ ?_
  · rintro i _ H12 hi ⟨rfl, rfl⟩ J hJ2
    have hi' : i < as'.length := by omega
    have d1 := ad i hi'
    simp (disch := omega) only [zA, zB, zC, zD, zF, zG, zH, ↓reduceIte, alen, hasl, hi, hf11, ai, d1, hi']
    refine FZ.use (has_e F hb11 hJ11 (har i hi) jw (row_len hAn hi) (by omega) (by omega) hn0 ((j2 _).2 ⟨_, vz, LSpan.at_ hi, .zero, (va_zero _).symm⟩)) ?_
    simp (disch := omega) only [zA, zB, zC, zD, zF, zG, zH, ↓reduceIte]
    exact hJ2 _ _ ⟨rfl, rfl⟩
  rintro _ H12 ⟨rfl, rfl⟩ J
  simp (disch := omega) only [zA, zB, zC, zD, zF, zG, zH, ↓reduceIte, alen, hasl]
  refine loopV1.nat B.length (fun i v H' => v = nv i ∧ H' = H12) ⟨rfl, rfl⟩ ?_ ?_
  · rintro i _ H13 hi ⟨rfl, rfl⟩ J hJ2
    have hi' : i < bs.length := by omega
    have d1 := bd i hi'
    simp (disch := omega) only [zA, zB, zC, zD, zF, zG, zH, ↓reduceIte, blen, hbsl, hi, hf11, bi, d1, hi']
    refine FZ.use (has_e F hb11 hJ11 (hbr i hi) jw (row_len hBn hi) (by omega) (by omega) hn0 ((j2 _).2 ⟨vz, _, .zero, LSpan.at_ hi, (zero_va _).symm⟩)) ?_
    simp (disch := omega) only [zA, zB, zC, zD, zF, zG, zH, ↓reduceIte]
    exact hJ2 _ _ ⟨rfl, rfl⟩
  rintro _ H13 ⟨rfl, rfl⟩ J
  simp (disch := omega) only [zA, zB, zC, zD, zF, zG, zH, ↓reduceIte, blen, hbsl]
  refine loopV1.nat (lmeet n' A B).length (fun i v H' => v = nv i ∧ H' = H13) ⟨rfl, rfl⟩ ?_ ?_
  · rintro i _ H14 hi ⟨rfl, rfl⟩ J hJ2
    have hi' : i < ms.length := by omega
    have d1 := md i hi'
    have hin := (m2 _).1 (LSpan.at_ hi)
    simp (disch := omega) only [zA, zB, zC, zD, zF, zG, zH, ↓reduceIte, mlen, hmsl, hi, hf11, mi, d1, hi']
    refine FZ.use (has_e F hb11 hA11 (hmr i hi) hAn (row_len mw hi) (by omega) (by omega) hn0 hin.1) ?_
    simp (disch := omega) only [zA, zB, zC, zD, zF, zG, zH, ↓reduceIte, hf11, mi, d1, hi']
    refine FZ.use (has_e F hb11 hB11 (hmr i hi) hBn (row_len mw hi) (by omega) (by omega) hn0 hin.2) ?_
    simp (disch := omega) only [zA, zB, zC, zD, zF, zG, zH, ↓reduceIte]
    exact hJ2 _ _ ⟨rfl, rfl⟩
  rintro _ H14 ⟨rfl, rfl⟩ J
  simp (disch := omega) only [zA, zB, zC, zD, zF, zG, zH, ↓reduceIte, mlen, hmsl, hf11]
  refine FZ.mono (kernel_p F hb11 hA11 hAn (by omega) (by omega) hn0) ?_
  rintro v133 H48 ⟨hp48, hka⟩
  have hf48 := hp48.get hf11
  simp (disch := omega) only [zA, zB, zC, zD, zF, zG, zH, ↓reduceIte, hf48]
  refine FZ.mono (kernel_p F (hp48.get hb11) (hB11.pre hp48) hBn (by omega) (by omega) hn0) ?_
  rintro v137 H49 ⟨hp49, hkb⟩
  have hf49 := hp49.get hf48
  have ka := (lkernel_red hAn).1.piv.1
  have kb := (lkernel_red hBn).1.piv.1
  have kal := lkernel_length n' A
  have kbl := lkernel_length n' B
  simp (disch := omega) only [zA, zB, zC, zD, zF, zG, zH, Nat.reduceEqDiff, Nat.reduceLT, Nat.reduceLeDiff, ↓reduceIte, hf49]
  refine FZ.mono (join_p F (hp49.get (hp48.get hb11)) (hka.pre hp49) hkb ka kb (by omega) (by omega) (by omega) hn0) ?_
  rintro v138 H50 ⟨hp50, hkj⟩
  have hf50 := hp50.get hf49
  change RowR H50 v138 (evr cd (ljoin (lkernel n' A) (lkernel n' B))) at hkj
  obtain ⟨kjw, kjl⟩ := ljoin_len ka kb
  simp (disch := omega) only [zA, zB, zC, zD, zF, zG, zH, Nat.reduceEqDiff, Nat.reduceLT, Nat.reduceLeDiff, ↓reduceIte, hf50]
  refine FZ.mono (kernel_p F (hp50.get (hp49.get (hp48.get hb11))) hkj kjw (by omega) (by omega) hn0) ?_
  rintro v139 H51 ⟨hp51, hkm⟩
  have hp1151 := ((hp48.trans hp49).trans hp50).trans hp51
  have hf51 := hp1151.get hf11
  have hb51 := hp1151.get hb11
  have hA51 := hA11.pre hp1151
  have hB51 := hB11.pre hp1151
  have hM51 := hM.pre hp1151
  have hJ51 := hJ11.pre hp1151
  simp (disch := omega) only [zA, zB, zC, zD, zF, zG, zH, ↓reduceIte]
  refine FZ.use (alike_e hM51 hkm (by omega) (fun x hx => by rw [mw x hx]; omega) rfl) ?_
  simp (disch := omega) only [zA, zB, zC, zD, zF, zG, zH, ↓reduceIte, hf51]
  refine FZ.mono (meet_p F hb51 hB51 hA51 hBn hAn (by omega) (by omega) (by omega) hn0) ?_
  rintro v148 H58 ⟨hp58, hm58⟩
  simp (disch := omega) only [zA, zB, zC, zD, zF, zG, zH, ↓reduceIte]
  refine FZ.use (alike_e (hM51.pre hp58) hm58 (by omega) (fun x hx => by rw [mw x hx]; omega) (lmeet_comm hAn hBn)) ?_
  have hf58 := hp58.get hf51
  simp (disch := omega) only [zA, zB, zC, zD, zF, zG, zH, ↓reduceIte, hf58]
  refine FZ.mono (join_p F (hp58.get hb51) (hB51.pre hp58) (hA51.pre hp58) hBn hAn (by omega) (by omega) (by omega) hn0) ?_
  rintro v157 H67 ⟨hp67, hj67⟩
  simp (disch := omega) only [zA, zB, zC, zD, zF, zG, zH, ↓reduceIte]
  refine FZ.use (alike_e ((hJ51.pre hp58).pre hp67) hj67 (by omega) (fun x hx => by rw [jw x hx]; omega) (ljoin_comm hAn hBn)) ?_
  have hp1167 := (hp1151.trans hp58).trans hp67
  have hf67 := hp1167.get hf11
  have hz67 := hp1167.get (hp11.get (hp10.get (hp9.get hzM)))
  have w16 : IntKind.u16.wrap (z1 : Int) = (z1 : Int) := by simp [IntKind.wrap, IntKind.bits, IntKind.signed]; omega
  have hp067 := ((((hpM0.trans hp9).trans hp10).trans hp11).trans hp1167)
  have hX := Pre.new H67 [.cells [uv z1] 100 none false]
  have hown : Acc H67 (H67 ++ [.cells [uv z1] 100 none false]) (.slice (some ⟨H67.length, 0, none⟩) 1 1) [uv z1] 100 := .inr ⟨H67.length, Nat.le_refl _, rfl, none, .inl rfl, by simp⟩
  obtain ⟨v174, H73, e1, ha73, hp73', _⟩ := hown.appR (by_ := 2) hX.len ((hy.pre hp067).pre hX) (by simp [one]) (by simpa using hwl) (by simp; omega)
  have hp73 := hp73' hX
  have hf73 := hp73.get hf67
  have hz73 := hp73.get hz67
  simp (disch := (first | omega | (simp only [stLen] <;> omega) | (simp only [all_nv]; done) | rfl)) only [zA, zB, zC, zD, zF, zG, zH, Nat.reduceEqDiff, Nat.reduceLT, Nat.reduceLeDiff, ↓reduceIte, hf67, hz67, w1, w16, e1, hf73, hz73]
  have hp1173 := hp1167.trans hp73
  have hb73 := hp1173.get hb11
  have hws' : ∀ u ∈ z1 :: ws, u < 65536 := fun u hu => by rcases List.mem_cons.1 hu with rfl | h; omega; exact hws u h
  refine FZ.mono (rows_c (us := z1 :: ws) F hws' hb73 (by simpa using ha73.row) (n := n') (m := z1 % 4) (by omega) (by omega) hn0) ?_
  rintro v175 H74 ⟨hp74, C, hCl, hCn, hC⟩
  have hf74 := hp74.get hf73
  have hp1174 := hp1173.trans hp74
  simp (disch := omega) only [zA, zB, zC, zD, zF, zG, zH, Nat.reduceEqDiff, Nat.reduceLT, Nat.reduceLeDiff, ↓reduceIte, hf74]
  refine FZ.mono (join_p F (hp74.get hb73) (hA11.pre hp1174) hC.acc.rowR hAn hCn (by omega) (by omega) (by omega) hn0) ?_
  rintro v176 H75 ⟨hp75, hc⟩
  change RowR H75 v176 (evr cd (ljoin A C)) at hc
  obtain ⟨c1, c2⟩ := ljoin_red hAn hCn
  obtain ⟨cw, cl⟩ := ljoin_len hAn hCn
  have hp1175 := hp1174.trans hp75
  have hf75 := hp1175.get hf11
  simp (disch := omega) only [zA, zB, zC, zD, zF, zG, zH, ↓reduceIte, hf75]
  refine FZ.mono (meet_p F (hp1175.get hb11) (hB11.pre hp1175) hc hBn cw (by omega) (by omega) (by omega) hn0) ?_
  rintro v183 H76 ⟨hp76, hbc⟩
  obtain ⟨bcw, bcl⟩ := lmeet_len hBn cw
  have hp1176 := hp1175.trans hp76
  have hf76 := hp1176.get hf11
  simp (disch := omega) only [zA, zB, zC, zD, zF, zG, zH, ↓reduceIte, hf76]
  refine FZ.mono (join_p F (hp1176.get hb11) (hA11.pre hp1176) hbc hAn bcw (by omega) (by omega) (by omega) hn0) ?_
  rintro v184 H77 ⟨hp77, hleft⟩
  have hp1177 := hp1176.trans hp77
  have hf77 := hp1177.get hf11
  simp (disch := omega) only [zA, zB, zC, zD, zF, zG, zH, ↓reduceIte, hf77]
  refine FZ.mono (meet_p F (hp1177.get hb11) (hJ11.pre hp1177) ((hc.pre hp76).pre hp77) jw cw (by omega) (by omega) (by omega) hn0) ?_
  rintro v189 H78 ⟨hp78, hright⟩
  have hmod := modular hAn hBn cw fun u hu => (c2 u).2 ⟨u, vz, hu, .zero, (va_zero _).symm⟩
  change RowR H77 v184 (evr cd (ljoin A (lmeet n' B (ljoin A C)))) at hleft
  obtain ⟨lw, ll⟩ := ljoin_len hAn bcw
  simp (disch := omega) only [zA, zB, zC, zD, zF, zG, zH, ↓reduceIte]
  refine FZ.use (alike_e (hleft.pre hp78) hright (by omega) (fun x hx => by rw [lw x hx]; omega) hmod) ?_
  simp (disch := omega) only [zA, zB, zC, zD, zF, zG, zH, ↓reduceIte]
  exact ((((hpM0.trans hp9).trans hp10).trans hp11).trans hp1177).trans hp78
end Go.Sim
