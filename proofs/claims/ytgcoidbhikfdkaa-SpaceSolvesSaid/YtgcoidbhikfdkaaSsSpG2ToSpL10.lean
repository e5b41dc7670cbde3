/- Part of the proof: SpG2, SpL9, SpL10. -/
import Derived.Test.YtgcoidbhikfdkaaSShSToShF
import Derived.Test.YtgcoidbhikfdkaaSShMix
import Derived.KernelRfl
import Derived.Test.YtgcoidbhikfdkaaSSpW3ToSpX10
set_option linter.all false
set_option maxRecDepth 100000
namespace Go.Sim
open Go Go.Proofs
def xd10 : XD := (.seq (.reg [yS 0 3 (.box 58) [oT 0], yS 1 6 .mov [oC (.bool false)]]) (.seq (.reg [yS 0 18 .call [oF 29], yS 1 7 .mov [oT 18]]) (.seq (.seq (.reg [yS 0 19 .mov [oT 7], yS 1 20 (.un .not) [oT 19]]) (.cond (oT 20) (.seq (.reg [yS 0 6 .mov [oC (.bool false)]]) .ret) .skip)) (.seq (.reg [yS 0 21 (.ld (some 4)) [oT 3], yS 1 22 .call [oF 30, oT 21], yS 2 8 (.new [(nv 0), (nv 0), (.slice none 0 0), (nv 0), (.slice none 0 0)] 63) [], yN 3 (.st 5) [oT 8, oT 22]]) (.seq (.reg [yS 0 23 (.fld 0) [oT 8], yS 1 24 (.ld (some 3)) [oT 23], yS 2 9 (.new [(nv 0), (nv 0), (.slice none 0 0)] 61) [], yN 3 (.st 3) [oT 9, oT 24]]) (.seq (.reg [⟨none, (.ld (some 3)), [oT 9], some 25, 0, true, []⟩, yS 1 26 (.fld 4) [oT 8], ⟨none, (.ld none), [oT 26], some 27, 2, true, []⟩, yS 3 28 (.ld (some 3)) [oT 9], yS 4 29 (.fld 3) [oT 8], yS 5 30 (.ld none) [oT 29], yS 6 31 .mov [oT 1], ⟨none, .call, [oF 32, oT 28, oT 30, oT 31], some 32, 7, false, [2, 0]⟩, yS 8 33 .call [oF 42, oT 25, oT 27, oT 32], yS 9 10 .mov [oT 33]]) (.seq (.seq (.reg [yS 0 34 (.ld (some 5)) [oT 8], yS 1 35 .mov [oT 10], yS 2 36 .call [oF 44, oT 34, oT 35], yS 3 37 (.prt none 1) [oT 36], yS 4 38 (.bin .neq 0) [oT 37, oC (nv 0)]]) (.cond (oT 38) (.seq (.reg [yS 0 6 .mov [oC (.bool false)]]) .ret) .skip)) (.join [] 288229826395897856 (.seq (.reg [yS 0 39 .mov [oT 10], yS 1 40 .lenS [oT 39], yS 2 41 (.bin .gtr 0) [oT 40, oC (nv 0)], yS 3 42 .mov [oT 41], yG (some (42, true)) 4 (some 43) .mov [oT 2], yG (some (42, true)) 5 (some 44) (.bin .gtr 0) [oT 43, oC (.int .u8 0)], yS 6 45 .pick [oT 42, oT 44, oC (.bool false)]]) (.cond (oT 45) (.reg [yS 0 46 .mov [oT 10], yS 1 47 .mov [oT 2], yS 2 48 (.conv .i64) [oT 47], yS 3 49 .mov [oT 10], yS 4 50 .lenS [oT 49], yS 5 51 (.bin .rem 0) [oT 48, oT 50], yS 6 52 .mov [oT 2], yS 7 53 (.conv .i64) [oT 52], yS 8 54 (.ld (some 3)) [oT 9], yS 9 55 .call [oF 62, oT 54], yS 10 56 (.bin .rem 0) [oT 53, oT 55], yS 11 57 (.ixS 1) [oT 46, oT 51], yN 12 (.st 1) [oT 57, oT 56]]) .skip)) (.seq (.reg [yS 0 58 (.ld (some 5)) [oT 8], yS 1 59 .mov [oT 10], yS 2 60 .call [oF 44, oT 58, oT 59], yS 3 11 (.new [(.slice none 0 0), (nv 0)] 76) [], yN 4 (.st 2) [oT 11, oT 60]]) (.seq (.seq (.reg [yS 0 61 (.fld 1) [oT 11], yS 1 62 (.ld none) [oT 61], yS 2 63 (.bin .eql 0) [oT 62, oC (nv 0)]]) (.cond (oT 63) (.seq (.seq (.reg [yS 0 64 (.ld (some 3)) [oT 9], yS 1 65 (.fld 3) [oT 8], yS 2 66 (.ld none) [oT 65], yS 3 67 (.fld 0) [oT 11], yS 4 68 (.ld none) [oT 67], yS 5 69 .call [oF 59, oT 64, oT 66, oT 68], yS 6 70 (.un .not) [oT 69], yS 7 71 .mov [oT 70], yG (some (71, false)) 8 (some 72) (.ld (some 3)) [oT 9], yG (some (71, false)) 9 (some 73) (.fld 4) [oT 8], yG (some (71, false)) 10 (some 74) (.ld none) [oT 73], yG (some (71, false)) 11 (some 75) (.fld 0) [oT 11], yG (some (71, false)) 12 (some 76) (.ld none) [oT 75], yG (some (71, false)) 13 (some 77) .call [oF 42, oT 72, oT 74, oT 76], yG (some (71, false)) 14 (some 78) .mov [oT 10], yG (some (71, false)) 15 (some 79) .call [oF 40, oT 77, oT 78], yG (some (71, false)) 16 (some 80) (.un .not) [oT 79], yS 17 81 .pick [oT 71, oC (.bool true), oT 80]]) (.cond (oT 81) (.seq (.reg [yS 0 6 .mov [oC (.bool false)]]) .ret) .skip)) (.seq (.reg [yS 0 82 (.ld (some 3)) [oT 9], yS 1 83 (.fld 4) [oT 8], yS 2 84 (.ld none) [oT 83], yS 3 85 .call [oF 35, oT 82, oT 84], yS 4 12 .mov [oT 85]]) (.seq (.seq (.reg [yS 0 13 .mov [oC (nv 0)]]) (.block 0 (.loop [13] 83076749659185989601151674086383680 (.seq (.seq (.reg [yS 0 86 .mov [oT 13], yS 1 87 (.fld 3) [oT 8], yS 2 88 (.ld none) [oT 87], yS 3 89 (.bin .lss 0) [oT 86, oT 88]]) (.cond (oT 89) .skip (.exit 0))) (.seq (.block 1 (.seq (.reg [yS 0 92 (.fld 0) [oT 11], yS 1 93 (.ld none) [oT 92], yS 2 94 .mov [oT 13], yS 3 95 (.ixS 1) [oT 93, oT 94], yS 4 96 (.ld none) [oT 95], yS 5 97 (.bin .eql 0) [oT 96, oC (nv 0)], yS 6 14 .mov [oT 97]]) (.seq (.seq (.reg [yS 0 15 .mov [oC (nv 0)]]) (.block 2 (.loop [14, 15] 20768870521489253456771611141128192 (.seq (.seq (.reg [yS 0 98 .mov [oT 15], yS 1 99 .mov [oT 12], yS 2 100 .lenS [oT 99], yS 3 101 (.bin .lss 0) [oT 98, oT 100]]) (.cond (oT 101) .skip (.exit 2))) (.seq (.block 3 (.reg [yS 0 104 .mov [oT 14], yS 1 105 .mov [oT 104], yG (some (105, false)) 2 (some 106) .mov [oT 12], yG (some (105, false)) 3 (some 107) .mov [oT 15], yG (some (105, false)) 4 (some 108) (.ixS 1) [oT 106, oT 107], yG (some (105, false)) 5 (some 109) (.ld none) [oT 108], yG (some (105, false)) 6 (some 110) .call [oF 65, oT 109], yG (some (105, false)) 7 (some 111) .mov [oT 13], yG (some (105, false)) 8 (some 112) (.bin .eql 0) [oT 110, oT 111], yS 9 113 .pick [oT 105, oC (.bool true), oT 112], yS 10 14 .mov [oT 113]])) (.reg [yS 0 102 .mov [oT 15], yS 1 103 (.bin .add 0) [oT 102, oC (nv 1)], yS 2 15 .mov [oT 103]])))))) (.seq (.reg [yS 0 114 .mov [oT 14], yS 1 115 (.un .not) [oT 114]]) (.cond (oT 115) (.seq (.reg [yS 0 6 .mov [oC (.bool false)]]) .ret) .skip))))) (.reg [yS 0 90 .mov [oT 13], yS 1 91 (.bin .add 0) [oT 90, oC (nv 1)], yS 2 13 .mov [oT 91]])))))) (.seq (.reg [yS 0 116 .mov [oT 7], yS 1 6 .mov [oT 116]]) .ret)))) .skip)) (.seq (.seq (.reg [yS 0 117 (.fld 1) [oT 11], yS 1 118 (.ld none) [oT 117], yS 2 119 (.bin .neq 0) [oT 118, oC (nv 4)], yS 3 120 .mov [oT 119], yG (some (120, false)) 4 (some 121) (.fld 0) [oT 11], yG (some (120, false)) 5 (some 122) (.ld none) [oT 121], yG (some (120, false)) 6 (some 123) .lenS [oT 122], yG (some (120, false)) 7 (some 124) (.bin .gtr 0) [oT 123, oC (nv 0)], yS 8 125 .pick [oT 120, oC (.bool true), oT 124], yS 9 126 .mov [oT 125], yG (some (126, false)) 10 (some 127) .mov [oT 10], yG (some (126, false)) 11 (some 128) .lenS [oT 127], yG (some (126, false)) 12 (some 129) (.bin .eql 0) [oT 128, oC (nv 0)], yS 13 130 .pick [oT 126, oC (.bool true), oT 129]]) (.cond (oT 130) (.seq (.reg [yS 0 6 .mov [oC (.bool false)]]) .ret) .skip)) (.seq (.reg [⟨none, (.ld (some 3)), [oT 9], some 131, 0, true, []⟩, yS 1 132 .mov [oT 10], yS 2 133 .lenS [oT 132], yS 3 134 (.fld 3) [oT 8], yS 4 135 (.ld none) [oT 134], yS 5 136 (.fld 4) [oT 8], yS 6 137 (.ld none) [oT 136], ⟨none, .call, [oF 58, oT 135, oT 137], some 138, 7, false, [0]⟩, yS 8 139 .call [oF 38, oT 131, oT 133, oT 138], yS 9 16 .mov [oT 139]]) (.seq (.seq (.reg [yS 0 17 .mov [oC (nv 0)]]) (.block 4 (.loop [17] 3064991081730383920141785890354272384845437721773211712 (.seq (.seq (.reg [yS 0 140 .mov [oT 17], yS 1 141 .mov [oT 16], yS 2 142 .lenS [oT 141], yS 3 143 (.bin .lss 0) [oT 140, oT 142]]) (.cond (oT 143) .skip (.exit 4))) (.seq (.block 5 (.seq (.reg [yS 0 146 (.ld (some 3)) [oT 9], yS 1 147 .mov [oT 10], yS 2 148 .lenS [oT 147], yS 3 149 .mov [oT 16], yS 4 150 .mov [oT 17], yS 5 151 (.ixS 1) [oT 149, oT 150], yS 6 152 (.ld none) [oT 151], yS 7 153 .call [oF 59, oT 146, oT 148, oT 152], yS 8 154 .mov [oT 153], yG (some (154, true)) 9 (some 155) (.ld (some 3)) [oT 9], yG (some (154, true)) 10 (some 156) (.fld 3) [oT 8], yG (some (154, true)) 11 (some 157) (.ld none) [oT 156], yG (some (154, true)) 12 (some 158) (.fld 4) [oT 8], yG (some (154, true)) 13 (some 159) (.ld none) [oT 158], yG (some (154, true)) 14 (some 160) .mov [oT 16], yG (some (154, true)) 15 (some 161) .mov [oT 17], yG (some (154, true)) 16 (some 162) (.ixS 1) [oT 160, oT 161], yG (some (154, true)) 17 (some 163) (.ld none) [oT 162], yG (some (154, true)) 19 (some 165) (.fld 3) [oT 8], ⟨(some (154, true)), (.ld none), [oT 165], some 166, 20, true, []⟩, ⟨(some (154, true)), .call, [oF 60, oT 155, oT 157, oT 159, oT 163], some 164, 18, false, [20]⟩, yG (some (154, true)) 21 (some 167) .call [oF 64, oT 166], yG (some (154, true)) 22 (some 168) .call [oF 40, oT 164, oT 167], yS 23 169 .pick [oT 154, oT 168, oC (.bool false)], yS 24 170 .mov [oT 169], yG (some (170, true)) 25 (some 171) (.ld (some 3)) [oT 9], yG (some (170, true)) 26 (some 172) .mov [oT 16], yG (some (170, true)) 27 (some 173) .mov [oT 17], yG (some (170, true)) 28 (some 174) (.ixS 1) [oT 172, oT 173], yG (some (170, true)) 29 (some 175) (.ld none) [oT 174], yG (some (170, true)) 30 (some 176) .mov [oT 10], yG (some (170, true)) 31 (some 177) .call [oF 66, oT 171, oT 175, oT 176], yG (some (170, true)) 32 (some 178) (.bin .neq 0) [oT 177, oC (nv 0)], yS 33 179 .pick [oT 170, oT 178, oC (.bool false)]]) (.cond (oT 179) (.seq (.reg [yS 0 180 .mov [oT 7], yS 1 6 .mov [oT 180]]) .ret) .skip))) (.reg [yS 0 144 .mov [oT 17], yS 1 145 (.bin .add 0) [oT 144, oC (nv 1)], yS 2 17 .mov [oT 145]])))))) (.seq (.reg [yS 0 6 .mov [oC (.bool false)]]) .ret))))))))))))))
theorem xd10_ok : compF Try.prog 10 = some ⟨181, [(.tmp 6)], xd10.er⟩ := by kernel_rfl
def g10 (x0 y1 change2 : Value) (H : AH) (R : Value → AH → Prop) : Prop :=
 @letH (H ++ [.cells (cellsL x0) 58 none false]) ⟨fun H1 =>
 @cG 29 [] H1 ⟨fun v18 H2 =>
 @bindO (eun .not v18) ⟨fun v20 =>
 @condK v20 ⟨fun q => if q = true then R (.bool false) H2 else
 @bindO (xload (some 4) H2 [(.pointer (some ⟨H.length, 0, none⟩))]) ⟨fun v21 =>
 @cG 30 [v21] H2 ⟨fun v22 H3 =>
 @letH (H3 ++ [.cells [(nv 0), (nv 0), (.slice none 0 0), (nv 0), (.slice none 0 0)] 63 none false]) ⟨fun H4 =>
 @bindP (xact (.st 5) H4 [(.pointer (some ⟨H3.length, 0, none⟩)), v22]) ⟨fun _v H5 =>
 @bindO (xpure (.fld 0) [(.pointer (some ⟨H3.length, 0, none⟩))]) ⟨fun v23 =>
 @bindO (xload (some 3) H5 [v23]) ⟨fun v24 =>
 @letH (H5 ++ [.cells [(nv 0), (nv 0), (.slice none 0 0)] 61 none false]) ⟨fun H6 =>
 @bindP (xact (.st 3) H6 [(.pointer (some ⟨H5.length, 0, none⟩)), v24]) ⟨fun _v H7 =>
 @bindO (xload (some 3) H7 [(.pointer (some ⟨H5.length, 0, none⟩))]) ⟨fun v25 =>
 @bindO (xpure (.fld 4) [(.pointer (some ⟨H3.length, 0, none⟩))]) ⟨fun v26 =>
 @bindO (xload none H7 [v26]) ⟨fun v27 =>
 @bindO (xload (some 3) H7 [(.pointer (some ⟨H5.length, 0, none⟩))]) ⟨fun v28 =>
 @bindO (xpure (.fld 3) [(.pointer (some ⟨H3.length, 0, none⟩))]) ⟨fun v29 =>
 @bindO (xload none H7 [v29]) ⟨fun v30 =>
 @cG 32 [v28, v30, y1] H7 ⟨fun v32 H8 =>
 (chkX [2, 0] (⟨2, none, [v26], v27⟩ :: (⟨0, (some 3), [(.pointer (some ⟨H5.length, 0, none⟩))], v25⟩ :: [])) H8 ∧ @cG 42 [v25, v27, v32] H8 ⟨fun v33 H9 =>
 @bindO (xload (some 5) H9 [(.pointer (some ⟨H3.length, 0, none⟩))]) ⟨fun v34 =>
 @cG 44 [v34, v33] H9 ⟨fun v36 H10 =>
 @bindO (xpure (.prt none 1) [v36]) ⟨fun v37 =>
 @bindO (xbin .neq 0 v37 (nv 0)) ⟨fun v38 =>
 @condK v38 ⟨fun q => if q = true then R (.bool false) H10 else
 @joinV0 (fun J1 => @bindO (xpure .lenS [v33]) ⟨fun v40 =>
 @bindO (xbin .gtr 0 v40 (nv 0)) ⟨fun v41 =>
 @guardJ (asB v41) (fun J2 => J2 change2 H10) H10 ⟨fun v43 H11 =>
 @guardJ (asB v41) (fun J3 => @bindO (xbin .gtr 0 v43 (.int .u8 0)) ⟨fun v44 =>
 J3 v44 H11⟩) H11 ⟨fun v44a H12 =>
 @pickK v41 v44a (.bool false) ⟨fun v45 =>
 @condK v45 ⟨fun q => if q = true then @bindO (xpure (.conv .i64) [change2]) ⟨fun v48 =>
 @bindO (xpure .lenS [v33]) ⟨fun v50 =>
 @bindO (xbin .rem 0 v48 v50) ⟨fun v51 =>
 @bindO (xpure (.conv .i64) [change2]) ⟨fun v53 =>
 @bindO (xload (some 3) H12 [(.pointer (some ⟨H5.length, 0, none⟩))]) ⟨fun v54 =>
 @cG 62 [v54] H12 ⟨fun v55 H13 =>
 @bindO (xbin .rem 0 v53 v55) ⟨fun v56 =>
 @bindO (xpure (.ixS 1) [v33, v51]) ⟨fun v57 =>
 @bindP (xact (.st 1) H13 [v57, v56]) ⟨fun _v H14 =>
 J1 H14⟩⟩⟩⟩⟩⟩⟩⟩⟩ else
 J1 H12⟩⟩⟩⟩⟩⟩) ⟨fun H15 =>
 @bindO (xload (some 5) H15 [(.pointer (some ⟨H3.length, 0, none⟩))]) ⟨fun v58 =>
 @cG 44 [v58, v33] H15 ⟨fun v60 H16 =>
 @letH (H16 ++ [.cells [(.slice none 0 0), (nv 0)] 76 none false]) ⟨fun H17 =>
 @bindP (xact (.st 2) H17 [(.pointer (some ⟨H16.length, 0, none⟩)), v60]) ⟨fun _v H18 =>
 @bindO (xpure (.fld 1) [(.pointer (some ⟨H16.length, 0, none⟩))]) ⟨fun v61 =>
 @bindO (xload none H18 [v61]) ⟨fun v62 =>
 @bindO (xbin .eql 0 v62 (nv 0)) ⟨fun v63 =>
 @condK v63 ⟨fun q => if q = true then @bindO (xload (some 3) H18 [(.pointer (some ⟨H5.length, 0, none⟩))]) ⟨fun v64 =>
 @bindO (xpure (.fld 3) [(.pointer (some ⟨H3.length, 0, none⟩))]) ⟨fun v65 =>
 @bindO (xload none H18 [v65]) ⟨fun v66 =>
 @bindO (xpure (.fld 0) [(.pointer (some ⟨H16.length, 0, none⟩))]) ⟨fun v67 =>
 @bindO (xload none H18 [v67]) ⟨fun v68 =>
 @cG 59 [v64, v66, v68] H18 ⟨fun v69 H19 =>
 @bindO (eun .not v69) ⟨fun v70 =>
 @guardJ (asNB v70) (fun J4 => @bindO (xload (some 3) H19 [(.pointer (some ⟨H5.length, 0, none⟩))]) ⟨fun v72 =>
 J4 v72 H19⟩) H19 ⟨fun v72a H20 =>
 @guardJ (asNB v70) (fun J5 => @bindO (xpure (.fld 4) [(.pointer (some ⟨H3.length, 0, none⟩))]) ⟨fun v73 =>
 J5 v73 H20⟩) H20 ⟨fun v73a H21 =>
 @guardJ (asNB v70) (fun J6 => @bindO (xload none H21 [v73a]) ⟨fun v74 =>
 J6 v74 H21⟩) H21 ⟨fun v74a H22 =>
 @guardJ (asNB v70) (fun J7 => @bindO (xpure (.fld 0) [(.pointer (some ⟨H16.length, 0, none⟩))]) ⟨fun v75 =>
 J7 v75 H22⟩) H22 ⟨fun v75a H23 =>
 @guardJ (asNB v70) (fun J8 => @bindO (xload none H23 [v75a]) ⟨fun v76 =>
 J8 v76 H23⟩) H23 ⟨fun v76a H24 =>
 @guardJ (asNB v70) (fun J9 => @cG 42 [v72a, v74a, v76a] H24 ⟨fun v77 H25 =>
 J9 v77 H25⟩) H24 ⟨fun v77a H26 =>
 @guardJ (asNB v70) (fun J10 => J10 v33 H26) H26 ⟨fun v78 H27 =>
 @guardJ (asNB v70) (fun J11 => @cG 40 [v77a, v78] H27 ⟨fun v79 H28 =>
 J11 v79 H28⟩) H27 ⟨fun v79a H29 =>
 @guardJ (asNB v70) (fun J12 => @bindO (eun .not v79a) ⟨fun v80 =>
 J12 v80 H29⟩) H29 ⟨fun v80a H30 =>
 @pickK v70 (.bool true) v80a ⟨fun v81 =>
 @condK v81 ⟨fun q => if q = true then R (.bool false) H30 else
 @bindO (xload (some 3) H30 [(.pointer (some ⟨H5.length, 0, none⟩))]) ⟨fun v82 =>
 @bindO (xpure (.fld 4) [(.pointer (some ⟨H3.length, 0, none⟩))]) ⟨fun v83 =>
 @bindO (xload none H30 [v83]) ⟨fun v84 =>
 @cG 35 [v82, v84] H30 ⟨fun v85 H31 =>
 @loopV1 (nv 0) H31 ⟨fun j13 H32 K13 =>
 @bindO (xpure (.fld 3) [(.pointer (some ⟨H3.length, 0, none⟩))]) ⟨fun v87 =>
 @bindO (xload none H32 [v87]) ⟨fun v88 =>
 @bindO (xbin .lss 0 j13 v88) ⟨fun v89 =>
 @condK v89 ⟨fun q => if q = true then @bindO (xpure (.fld 0) [(.pointer (some ⟨H16.length, 0, none⟩))]) ⟨fun v92 =>
 @bindO (xload none H32 [v92]) ⟨fun v93 =>
 @bindO (xpure (.ixS 1) [v93, j13]) ⟨fun v95 =>
 @bindO (xload none H32 [v95]) ⟨fun v96 =>
 @bindO (xbin .eql 0 v96 (nv 0)) ⟨fun v97 =>
 @loopV2 v97 (nv 0) H32 ⟨fun found14 i15 H33 K14 =>
 @bindO (xpure .lenS [v85]) ⟨fun v100 =>
 @bindO (xbin .lss 0 i15 v100) ⟨fun v101 =>
 @condK v101 ⟨fun q => if q = true then @guardJ (asNB found14) (fun J15 => J15 v85 H33) H33 ⟨fun v106 H34 =>
 @guardJ (asNB found14) (fun J16 => J16 i15 H34) H34 ⟨fun v107 H35 =>
 @guardJ (asNB found14) (fun J17 => @bindO (xpure (.ixS 1) [v106, v107]) ⟨fun v108 =>
 J17 v108 H35⟩) H35 ⟨fun v108a H36 =>
 @guardJ (asNB found14) (fun J18 => @bindO (xload none H36 [v108a]) ⟨fun v109 =>
 J18 v109 H36⟩) H36 ⟨fun v109a H37 =>
 @guardJ (asNB found14) (fun J19 => @cG 65 [v109a] H37 ⟨fun v110 H38 =>
 J19 v110 H38⟩) H37 ⟨fun v110a H39 =>
 @guardJ (asNB found14) (fun J20 => J20 j13 H39) H39 ⟨fun v111 H40 =>
 @guardJ (asNB found14) (fun J21 => @bindO (xbin .eql 0 v110a v111) ⟨fun v112 =>
 J21 v112 H40⟩) H40 ⟨fun v112a H41 =>
 @pickK found14 (.bool true) v112a ⟨fun v113 =>
 @bindO (xbin .add 0 i15 (nv 1)) ⟨fun v103 =>
 K14 v113 v103 H41⟩⟩⟩⟩⟩⟩⟩⟩⟩ else
 @bindO (eun .not found14) ⟨fun v115 =>
 @condK v115 ⟨fun q => if q = true then R (.bool false) H33 else
 @bindO (xbin .add 0 j13 (nv 1)) ⟨fun v91 =>
 K13 v91 H33⟩⟩⟩⟩⟩⟩⟩⟩⟩⟩⟩⟩ else
 R v18 H32⟩⟩⟩⟩⟩⟩⟩⟩⟩⟩⟩⟩⟩⟩⟩⟩⟩⟩⟩⟩⟩⟩⟩⟩⟩⟩⟩ else
 @bindO (xpure (.fld 1) [(.pointer (some ⟨H16.length, 0, none⟩))]) ⟨fun v117 =>
 @bindO (xload none H18 [v117]) ⟨fun v118 =>
 @bindO (xbin .neq 0 v118 (nv 4)) ⟨fun v119 =>
 @guardJ (asNB v119) (fun J22 => @bindO (xpure (.fld 0) [(.pointer (some ⟨H16.length, 0, none⟩))]) ⟨fun v121 =>
 J22 v121 H18⟩) H18 ⟨fun v121a H42 =>
 @guardJ (asNB v119) (fun J23 => @bindO (xload none H42 [v121a]) ⟨fun v122 =>
 J23 v122 H42⟩) H42 ⟨fun v122a H43 =>
 @guardJ (asNB v119) (fun J24 => @bindO (xpure .lenS [v122a]) ⟨fun v123 =>
 J24 v123 H43⟩) H43 ⟨fun v123a H44 =>
 @guardJ (asNB v119) (fun J25 => @bindO (xbin .gtr 0 v123a (nv 0)) ⟨fun v124 =>
 J25 v124 H44⟩) H44 ⟨fun v124a H45 =>
 @pickK v119 (.bool true) v124a ⟨fun v125 =>
 @guardJ (asNB v125) (fun J26 => J26 v33 H45) H45 ⟨fun v127 H46 =>
 @guardJ (asNB v125) (fun J27 => @bindO (xpure .lenS [v127]) ⟨fun v128 =>
 J27 v128 H46⟩) H46 ⟨fun v128a H47 =>
 @guardJ (asNB v125) (fun J28 => @bindO (xbin .eql 0 v128a (nv 0)) ⟨fun v129 =>
 J28 v129 H47⟩) H47 ⟨fun v129a H48 =>
 @pickK v125 (.bool true) v129a ⟨fun v130 =>
 @condK v130 ⟨fun q => if q = true then R (.bool false) H48 else
 @bindO (xload (some 3) H48 [(.pointer (some ⟨H5.length, 0, none⟩))]) ⟨fun v131 =>
 @bindO (xpure .lenS [v33]) ⟨fun v133 =>
 @bindO (xpure (.fld 3) [(.pointer (some ⟨H3.length, 0, none⟩))]) ⟨fun v134 =>
 @bindO (xload none H48 [v134]) ⟨fun v135 =>
 @bindO (xpure (.fld 4) [(.pointer (some ⟨H3.length, 0, none⟩))]) ⟨fun v136 =>
 @bindO (xload none H48 [v136]) ⟨fun v137 =>
 @cG 58 [v135, v137] H48 ⟨fun v138 H49 =>
 (chkX [0] (⟨0, (some 3), [(.pointer (some ⟨H5.length, 0, none⟩))], v131⟩ :: []) H49 ∧ @cG 38 [v131, v133, v138] H49 ⟨fun v139 H50 =>
 @loopV1 (nv 0) H50 ⟨fun i17 H51 K29 =>
 @bindO (xpure .lenS [v139]) ⟨fun v142 =>
 @bindO (xbin .lss 0 i17 v142) ⟨fun v143 =>
 @condK v143 ⟨fun q => if q = true then @bindO (xload (some 3) H51 [(.pointer (some ⟨H5.length, 0, none⟩))]) ⟨fun v146 =>
 @bindO (xpure .lenS [v33]) ⟨fun v148 =>
 @bindO (xpure (.ixS 1) [v139, i17]) ⟨fun v151 =>
 @bindO (xload none H51 [v151]) ⟨fun v152 =>
 @cG 59 [v146, v148, v152] H51 ⟨fun v153 H52 =>
 @guardJ (asB v153) (fun J30 => @bindO (xload (some 3) H52 [(.pointer (some ⟨H5.length, 0, none⟩))]) ⟨fun v155 =>
 J30 v155 H52⟩) H52 ⟨fun v155a H53 =>
 @guardJ (asB v153) (fun J31 => @bindO (xpure (.fld 3) [(.pointer (some ⟨H3.length, 0, none⟩))]) ⟨fun v156 =>
 J31 v156 H53⟩) H53 ⟨fun v156a H54 =>
 @guardJ (asB v153) (fun J32 => @bindO (xload none H54 [v156a]) ⟨fun v157 =>
 J32 v157 H54⟩) H54 ⟨fun v157a H55 =>
 @guardJ (asB v153) (fun J33 => @bindO (xpure (.fld 4) [(.pointer (some ⟨H3.length, 0, none⟩))]) ⟨fun v158 =>
 J33 v158 H55⟩) H55 ⟨fun v158a H56 =>
 @guardJ (asB v153) (fun J34 => @bindO (xload none H56 [v158a]) ⟨fun v159 =>
 J34 v159 H56⟩) H56 ⟨fun v159a H57 =>
 @guardJ (asB v153) (fun J35 => J35 v139 H57) H57 ⟨fun v160 H58 =>
 @guardJ (asB v153) (fun J36 => J36 i17 H58) H58 ⟨fun v161 H59 =>
 @guardJ (asB v153) (fun J37 => @bindO (xpure (.ixS 1) [v160, v161]) ⟨fun v162 =>
 J37 v162 H59⟩) H59 ⟨fun v162a H60 =>
 @guardJ (asB v153) (fun J38 => @bindO (xload none H60 [v162a]) ⟨fun v163 =>
 J38 v163 H60⟩) H60 ⟨fun v163a H61 =>
 @guardJ (asB v153) (fun J39 => @bindO (xpure (.fld 3) [(.pointer (some ⟨H3.length, 0, none⟩))]) ⟨fun v165 =>
 J39 v165 H61⟩) H61 ⟨fun v165a H62 =>
 @guardJ (asB v153) (fun J40 => @bindO (xload none H62 [v165a]) ⟨fun v166 =>
 J40 v166 H62⟩) H62 ⟨fun v166a H63 => @letD (bif (asB v153) then ⟨20, none, [v165a], v166a⟩ :: [] else []) ⟨fun D1 =>
 @guardJ (asB v153) (fun J41 => @cG 60 [v155a, v157a, v159a, v163a] H63 ⟨fun v164 H64 =>
 (chkX [20] D1 H64 ∧ J41 v164 H64)⟩) H63 ⟨fun v164a H65 =>
 @guardJ (asB v153) (fun J42 => @cG 64 [v166a] H65 ⟨fun v167 H66 =>
 J42 v167 H66⟩) H65 ⟨fun v167a H67 =>
 @guardJ (asB v153) (fun J43 => @cG 40 [v164a, v167a] H67 ⟨fun v168 H68 =>
 J43 v168 H68⟩) H67 ⟨fun v168a H69 =>
 @pickK v153 v168a (.bool false) ⟨fun v169 =>
 @guardJ (asB v169) (fun J44 => @bindO (xload (some 3) H69 [(.pointer (some ⟨H5.length, 0, none⟩))]) ⟨fun v171 =>
 J44 v171 H69⟩) H69 ⟨fun v171a H70 =>
 @guardJ (asB v169) (fun J45 => J45 v139 H70) H70 ⟨fun v172 H71 =>
 @guardJ (asB v169) (fun J46 => J46 i17 H71) H71 ⟨fun v173 H72 =>
 @guardJ (asB v169) (fun J47 => @bindO (xpure (.ixS 1) [v172, v173]) ⟨fun v174 =>
 J47 v174 H72⟩) H72 ⟨fun v174a H73 =>
 @guardJ (asB v169) (fun J48 => @bindO (xload none H73 [v174a]) ⟨fun v175 =>
 J48 v175 H73⟩) H73 ⟨fun v175a H74 =>
 @guardJ (asB v169) (fun J49 => J49 v33 H74) H74 ⟨fun v176 H75 =>
 @guardJ (asB v169) (fun J50 => @cG 66 [v171a, v175a, v176] H75 ⟨fun v177 H76 =>
 J50 v177 H76⟩) H75 ⟨fun v177a H77 =>
 @guardJ (asB v169) (fun J51 => @bindO (xbin .neq 0 v177a (nv 0)) ⟨fun v178 =>
 J51 v178 H77⟩) H77 ⟨fun v178a H78 =>
 @pickK v169 v178a (.bool false) ⟨fun v179 =>
 @condK v179 ⟨fun q => if q = true then R v18 H78 else
 @bindO (xbin .add 0 i17 (nv 1)) ⟨fun v145 =>
 K29 v145 H78⟩⟩⟩⟩⟩⟩⟩⟩⟩⟩⟩⟩⟩⟩⟩⟩⟩⟩⟩⟩⟩⟩⟩⟩⟩⟩⟩⟩⟩⟩⟩⟩ else
 R (.bool false) H51⟩⟩⟩⟩⟩)⟩⟩⟩⟩⟩⟩⟩⟩⟩⟩⟩⟩⟩⟩⟩⟩⟩⟩⟩⟩⟩⟩⟩⟩⟩⟩⟩⟩⟩⟩⟩⟩⟩⟩⟩)⟩⟩⟩⟩⟩⟩⟩⟩⟩⟩⟩⟩⟩⟩⟩⟩⟩⟩⟩
theorem g10_of {x0 y1 change2 : Value} {H : AH} {R : Value → AH → Prop} (h : g10 x0 y1 change2 H R) : FN Try.prog 10 [x0, y1, change2] H R :=
  FN.of_XD mixed xd10_ok (by kernel_rfl) (Nat.le_of_ble_eq_true rfl) (cast (by kernel_rfl) h)
end Go.Sim

namespace Go.Sim
open Go Go.Proofs
section
variable {α : Type} [Fl α] [DecidableEq α] {cd : α → Nat} {p e b c q : Nat} {blk : AB} {H : AH}
theorem evs_nv (xs : List α) : evs cd xs = (xs.map cd).map nv := by simp [evs, Function.comp_def]
theorem map_inj' (F : FOK α cd p e b c q blk) : ∀ {xs ys : List α}, xs.map cd = ys.map cd → xs = ys
  | [], [], _ => rfl
  | [], _ :: _, h => by simp at h
  | _ :: _, [], h => by simp at h
  | x :: xs, y :: ys, h => by
    simp only [List.map_cons, List.cons.injEq] at h
    rw [F.inj _ _ h.1, map_inj' F h.2]
theorem same_e (F : FOK α cd p e b c q blk) {v w : Value} {xs ys : List α} (hv : Row H v (evs cd xs)) (hw : Row H w (evs cd ys)) (hx : xs.length ≤ 1000) : FN Try.prog 40 [v, w] H (fun r H' => r = .bool (decide (xs = ys)) ∧ H' = H) := by
  rw [evs_nv] at hv hw
  refine (same_c hv hw (by rw [List.length_map]; omega)).mono ?_
  rintro r H' ⟨rfl, rfl⟩
  refine ⟨?_, rfl⟩
  congr 1
  rw [decide_eq_decide]
  exact ⟨map_inj' F, fun h => by rw [h]⟩
end
section
variable {α : Type} [Fl α] [DecidableEq α]
end
abbrev rawv (k n m : Nat) (x : Value) : Value := .agg [.int .u8 (k : Int), .int .u8 (n : Int), .int .u8 (m : Int), x].toArray
end Go.Sim

namespace Go.Sim
open Go Go.Proofs
theorem joinV0.mid {first : (AH → Prop) → Prop} {r : AH → Prop} (Q : AH → Prop) (h1 : ∀ J : AH → Prop, (∀ H, Q H → J H) → first J) (h2 : ∀ H, Q H → r H) : @joinV0 first ⟨r⟩ :=
  joinV0.intro fun J hJ => h1 J fun H hq => hJ H (h2 H hq)
theorem law10 (hF : FldOK) (hE : ExOK) {H : AH} {x y : Value} {us ws : List Nat} {k n m z : Nat} (hk : k < 256) (hn : n < 256) (hm : m < 256) (hz : z < 256) (hus : ∀ u ∈ us, u < 65536) (hx : Row H x (us.map uv)) (hws : ∀ u ∈ ws, u < 65536) (hy : Row H y (ws.map uv)) :
    FN Try.prog 10 [rawv k n m x, y, .int .u8 (z : Int)] H (fun r H' => r = .bool true ∧ H' = H) := by
  refine FN.pre0 (g10_of ?_) rfl
  unfold g10
  have hp1 := Pre.new H [.cells [.int .u8 (k : Int), .int .u8 (n : Int), .int .u8 (m : Int), x] 58 none false]
  have w0 : IntKind.i64.wrap (z : Int) = (z : Int) := wrap64 (by omega) (by omega)
  simp (disch := omega) only [zA, zB, zC, zD, zF, zG, zH, ↓reduceIte]
  refine FZ.use (hE _) ?_
  simp (disch := omega) only [zA, zB, zC, zD, zF, zG, zH, ↓reduceIte]
  refine FZ.mono (made_c hF hk hn hm hus (hx.pre hp1)) ?_
  rintro r H3 ⟨hp3, α, i1, i2, cd, p, e, b, c, q, blk, hb, F, hq, rfl_⟩
  obtain ⟨v, n', A, rfl, hn0, hn8, hA6, hAn, hv⟩ := rfl_
  have hp03 := hp1.trans hp3
  have hone : one v = true := by obtain ⟨_, h, _⟩ := hv; exact h.1.one
  have s5 := stB_five (H := H3 ++ [.cells [nv 0, nv 0, .slice none 0 0, nv 0, .slice none 0 0] 63 none false]) (bl := H3.length) (x := nv p) (y := nv e) (z := .slice (some ⟨b, 0, none⟩) e c) (u := nv n') (v := v) (c0 := nv 0) (c1 := nv 0) (c2 := .slice none 0 0) (c3 := nv 0) (c4 := .slice none 0 0) (e := 63) (op := none) rfl rfl rfl rfl hone
  rw [set_last] at s5
  have s3 := stB_three (H := H3 ++ [mbx p e b c n' v, .cells [nv 0, nv 0, .slice none 0 0] 61 none false]) (bl := H3.length + 1) (x := nv p) (y := nv e) (z := .slice (some ⟨b, 0, none⟩) e c) (c0 := nv 0) (c1 := nv 0) (c2 := .slice none 0 0) (e := 61) (op := none) rfl rfl rfl
  rw [set_new] at s3
  simp only [List.set_cons_succ, List.set_cons_zero] at s3
  have hpM := Pre.new H3 [mbx p e b c n' v, fbx p e b c]
  have hmM : (H3 ++ [mbx p e b c n' v, fbx p e b c])[H3.length]? = some (mbx p e b c n' v) := by simp
  have hfM : (H3 ++ [mbx p e b c n' v, fbx p e b c])[H3.length + 1]? = some (fbx p e b c) := by simp
  simp (disch := omega) only [zA, zB, zC, zD, zF, zG, zH, ↓reduceIte, s5, s3]
  have hpM0 := hp03.trans hpM
  generalize hHM : H3 ++ [mbx p e b c n' v, fbx p e b c] = HM at *
  have hbM := hpM.get hb
  have hvM := hv.pre hpM
  refine FZ.mono (list_c F hws hbM (hy.pre hpM0) (n := n') (by omega)) ?_
  rintro v32 H8 ⟨hp8, xs, hxl, hxr⟩
  have hm8 := hp8.get hmM
  have hf8 := hp8.get hfM
  have hb8 := hp8.get hbM
  simp (disch := omega) only [zA, zB, zC, zD, zF, zG, zH, ↓reduceIte, hm8, hf8]
  refine FZ.mono (apply_c F hb8 (hvM.pre hp8) hxr.row (fun x hx => by rw [hAn x hx, hxl]) (by omega) (by omega)) ?_
  rintro v33 H9 ⟨hp9, hb9a⟩
  have hm9 := hp9.get hm8
  have hf9 := hp9.get hf8
  have hb9 := hp9.get hb8
  have hv9 := (hvM.pre hp8).pre hp9
  obtain ⟨bs, hbs⟩ : ∃ bs, bs = A.map fun x => ldot x xs := ⟨_, rfl⟩
  rw [← hbs] at hb9a
  have hbl : A.length = bs.length := by rw [hbs, List.length_map]
  simp (disch := omega) only [zA, zB, zC, zD, zF, zG, zH, ↓reduceIte, hm9]
  refine FZ.mono (solved_c F hb9 hv9 hb9a.row hAn hbl (by omega) (by omega) hn0) ?_
  rintro r H10 ⟨hp10, hr⟩
  have hsol : lsolve n' A bs ≠ none := lsolve_sol hAn hbl (x := toV xs) fun i hi => by
    rw [rowV_at hi, ← ldot_dot (hAn _ (List.getElem_mem hi)), hbs]
    simp [toV, List.getD_eq_getElem?_getD, List.getElem?_eq_getElem hi]
  cases hs : lsolve n' A bs with
  | none => exact absurd hs hsol
  | some sol =>
  rw [hs] at hr
  simp only at hr
  obtain ⟨s, rfl, hsr⟩ := hr
  have e37 : xpure (.prt none 1) [.agg #[s, nv 0]] = some (nv 0) := rfl
  simp (disch := omega) only [zA, zB, zC, zD, zF, zG, zH, ↓reduceIte, e37]
  have hp810 := hp9.trans hp10
  have ha10 := hb9a.pre hp10
  have hb10 := hp810.get hb8
  have hf10 := hp810.get hf8
  have hm10 := hp810.get hm8
  have hle8 := hp810.len
  have hq2 := F.q2
  refine joinV0.mid (fun H' => Pre H8 H' ∧ ∃ bs' : List α, A.length = bs'.length ∧ Acc H8 H' v33 (evs cd bs') 3) ?_ ?_
  · intro J hJ
    have stay : J H10 := hJ _ ⟨hp810, bs, hbl, ha10⟩
    have bl := ha10.row.len
    rw [List.length_map] at bl
    by_cases h0 : bs.length = 0
    · simp (disch := omega) only [zA, zB, zC, zD, zF, zG, zH, ↓reduceIte, bl, h0]
      exact stay
    · have hpos : 0 < bs.length := by omega
      by_cases hz0 : z = 0
      · have e1 : xbin .gtr 0 (.int .u8 (z : Int)) (.int .u8 0) = some (.bool false) := by rw [xbin_gtr, decide_eq_false]; omega
        simp (disch := omega) only [zA, zB, zC, zD, zF, zG, zH, ↓reduceIte, bl, hpos, e1]
        exact stay
      · have e1 : xbin .gtr 0 (.int .u8 (z : Int)) (.int .u8 0) = some (.bool true) := by rw [xbin_gtr, decide_eq_true]; omega
        have hq0 : 0 < q := by omega
        simp (disch := omega) only [zA, zB, zC, zD, zF, zG, zH, ↓reduceIte, bl, hpos, e1, w0, hf10]
        refine FZ.use (F.rsize _ hb10) ?_
        have hlt : z % bs.length < bs.length := Nat.mod_lt _ hpos
        obtain ⟨y', hy'⟩ := F.sur (z % q) (Nat.mod_lt _ hq0)
        obtain ⟨_, bi, _, _⟩ := ha10.row.allV
        rcases ha10 with ⟨hnil, _⟩ | ⟨b0, hb0, rfl, op, hop, hcell⟩
        · have h4 := congrArg List.length hnil
          rw [List.length_map, List.length_nil] at h4
          omega
        have s1 := st_ev (x := y') hcell (k := z % bs.length) hlt
        rw [hy'] at s1
        have hel : (evs cd bs).length = bs.length := by simp
        rw [hel]
        simp (disch := omega) only [zA, zB, zC, zD, zF, zG, zH, ↓reduceIte, hq0, hlt, s1]
        refine hJ _ ⟨fun x hx => ?_, bs.set (z % bs.length) y', by rw [List.length_set]; omega, .inr ⟨b0, hb0, by simp, op, hop, List.getElem?_set_self (get_lt hcell)⟩⟩
        have hxb : b0 ≠ x := by omega
        rw [List.getElem?_set_ne hxb]
        exact hp810 x hx
  rintro H15 ⟨hp815, bs', hbl', ha15⟩
  have hm15 := hp815.get hm8
  have hf15 := hp815.get hf8
  have hb15 := hp815.get hb8
  have hv15 := (hvM.pre hp8).pre hp815
  simp (disch := omega) only [zA, zB, zC, zD, zF, zG, zH, ↓reduceIte, hm15]
  refine FZ.mono (solved_c F hb15 hv15 ha15.row hAn hbl' (by omega) (by omega) hn0) ?_
  rintro r H16 ⟨hp16, hr⟩
  have hm16 := hp16.get hm15
  have hf16 := hp16.get hf15
  have hb16 := hp16.get hb15
  have hv16 := hv15.pre hp16
  have hbr16 := ha15.row.pre hp16
  have hp016 := ((hpM0.trans hp8).trans hp815).trans hp16
  cases hs' : lsolve n' A bs' with
  | none =>
    rw [hs'] at hr
    simp only at hr
    subst hr
    have hA0 : 0 < A.length := by
      apply Nat.pos_of_ne_zero
      intro h0
      have : A = [] := List.eq_nil_of_length_eq_zero h0
      subst this
      exact lsolve_sol (n := n') (rows := []) (bs := bs') (fun x hx => by simp at hx) hbl' (x := vz) (fun i hi => absurd hi (Nat.not_lt_zero _)) hs'
    have s2 := stB_two (H := H16 ++ [.cells [.slice none 0 0, nv 0] 76 none false]) (bl := H16.length) (x := .slice none 0 0) (y := nv 4) (c0 := .slice none 0 0) (c1 := nv 0) (e := 76) (op := none) rfl rfl
    rw [set_last] at s2
    have hpY := Pre.new H16 [.cells [.slice none 0 0, nv 4] 76 none false]
    have hY : (H16 ++ [.cells [.slice none 0 0, nv 4] 76 none false])[H16.length]? = some (.cells [.slice none 0 0, nv 4] 76 none false) := by simp
    have hf18 := hpY.get hf16
    have hm18 := hpY.get hm16
    have hbr18 := hbr16.pre hpY
    have bl18 := hbr18.len
    rw [List.length_map, ← hbl'] at bl18
    have hAne : ¬ A.length = 0 := by omega
    simp (disch := omega) only [zA, zB, zC, zD, zF, zG, zH, ↓reduceIte, s2]
    generalize H16 ++ [.cells [.slice none 0 0, nv 4] 76 none false] = H18 at *
    have hv18 := hv16.pre hpY
    have hb18 := hpY.get hb16
    simp (disch := omega) only [zA, zB, zC, zD, zF, zG, zH, Nat.reduceEqDiff, Nat.reduceLT, Nat.reduceLeDiff, ↓reduceIte, hY, bl18, hAne, hf18, hm18]
    refine FZ.mono (turn_c (n := n') hv18 hAn (by omega) (by omega) (Nat.le_refl _)) ?_
    rintro v138 H49 ⟨hp49, ht49⟩
    have hf49 := hp49.get hf18
    have hm49 := hp49.get hm18
    obtain ⟨t1, t2⟩ := lturn_len n' A
    simp (disch := omega) only [zA, zB, zC, zD, zF, zG, zH, ↓reduceIte, hf49]
    refine FZ.mono (kernel_p F (hp49.get hb18) ht49 t2 (by omega) (by omega) hA0) ?_
    rintro v139 H50 ⟨hp50, hk50⟩
    obtain ⟨i0, hi0, hne0⟩ := no_sol hAn hbl' hs'
    obtain ⟨k1, k2⟩ := lkernel_red t2
    have kln := lkernel_length A.length (lturn n' A)
    generalize lkernel A.length (lturn n' A) = K at *
    have kw := k1.piv.1
    have hp1850 := hp49.trans hp50
    refine loopV1.nat K.length (fun i v H' => v = nv i ∧ Pre H50 H' ∧ ∀ j, j < i → ldot (K.getD j []) bs' = Fl.zero) ⟨rfl, Pre.refl _, fun j h => absurd h (Nat.not_lt_zero _)⟩ ?_ ?_
    · rintro i _ H51 hi ⟨rfl, hp51, hall⟩ J hJ
      have hp1851 := hp1850.trans hp51
      have hf51 := hp1851.get hf18
      have hm51 := hp1851.get hm18
      have hb51 := hp1851.get hb18
      have hv51 := hv18.pre hp1851
      have hbr51 := hbr18.pre hp1851
      obtain ⟨ks, hks, hksl, hkr⟩ := (hk50.pre hp51).open
      obtain ⟨kl, ki, kd, _⟩ := hks.allV
      have hi' : i < ks.length := by omega
      have d1 := kd i hi'
      have rk := hkr i hi
      have hkl := row_len kw hi
      have bl51 := hbr51.len
      rw [List.length_map, ← hbl'] at bl51
      have hcomb : lcomb n' A (K.getD i []) = List.replicate n' Fl.zero := (turn_kernel hAn hkl).1 ((k2 _).1 (LSpan.at_ hi))
      simp (disch := omega) only [zA, zB, zC, zD, zF, zG, zH, ↓reduceIte, kl, hksl, hi, hf51, bl51, ki, d1, hi']
      refine FZ.use (vector_r_ok F hb51 rk hkl (by omega)) ?_
      simp (disch := omega) only [zA, zB, zC, zD, zF, zG, zH, ↓reduceIte, hf51, hm51, ki, d1, hi']
      refine FZ.mono (combine_c F (n := n') hb51 hv51 rk hAn (by omega) (by omega) (by omega)) ?_
      rintro v164 H64 ⟨hp64, hc64⟩
      rw [hcomb] at hc64
      have hm64 := hp64.get hm51
      simp (disch := omega) only [zA, zB, zC, zD, zF, zG, zH, ↓reduceIte, hm64]
      refine FZ.mono (zero_c (by omega)) ?_
      rintro v167 H66 ⟨hp66, hz66⟩
      rw [zero_evs (α := α) F] at hz66
      simp (disch := omega) only [zA, zB, zC, zD, zF, zG, zH, ↓reduceIte]
      refine FZ.use (same_e F (hc64.row.pre hp66) hz66.row (by simp; omega)) ?_
      have hp5166 := hp64.trans hp66
      have hf66 := hp5166.get hf51
      obtain ⟨_, ki6, kd6, _⟩ := (hks.pre hp5166).allV
      have d2 := kd6 i hi'
      simp (disch := omega) only [zA, zB, zC, zD, zF, zG, zH, ↓reduceIte, hf66, ki6, d2, hi']
      refine FZ.use (dot_c F (hp5166.get hb51) (rk.pre hp5166) (hbr51.pre hp5166) (by omega) (by omega)) ?_
      by_cases h0 : ldot (K.getD i []) bs' = Fl.zero
      · have hc0 : cd (ldot (K.getD i []) bs') = 0 := (F.eq0 _).2 h0
        simp (disch := omega) only [zA, zB, zC, zD, zF, zG, zH, ↓reduceIte, hc0]
        refine hJ _ _ ⟨rfl, hp51.trans hp5166, fun j hj => ?_⟩
        by_cases hji : j = i
        · rw [hji]; exact h0
        · exact hall j (by omega)
      · have hc0 : ¬ cd (ldot (K.getD i []) bs') = 0 := fun h => h0 ((F.eq0 _).1 h)
        simp (disch := omega) only [zA, zB, zC, zD, zF, zG, zH, ↓reduceIte, hc0]
        exact ((hp016.trans hpY).trans hp1851).trans hp5166
    · rintro _ H51 ⟨rfl, hp51, hall⟩ J
      exact absurd (hall i0 hi0) hne0
  | some X =>
    rw [hs'] at hr
    simp only at hr
    obtain ⟨t, rfl, ht, _⟩ := hr
    obtain ⟨hXl, hXs, hXz⟩ := lsolve_some hAn hbl' hs'
    have s2 := stB_two (H := H16 ++ [.cells [.slice none 0 0, nv 0] 76 none false]) (bl := H16.length) (x := t) (y := nv 0) (c0 := .slice none 0 0) (c1 := nv 0) (e := 76) (op := none) ht.one rfl
    rw [set_last] at s2
    have hpY := Pre.new H16 [.cells [t, nv 0] 76 none false]
    have hY : (H16 ++ [.cells [t, nv 0] 76 none false])[H16.length]? = some (.cells [t, nv 0] 76 none false) := by simp
    have hf18 := hpY.get hf16
    have hm18 := hpY.get hm16
    have ht18 := ht.pre hpY
    simp (disch := omega) only [zA, zB, zC, zD, zF, zG, zH, ↓reduceIte, s2]
    generalize H16 ++ [.cells [t, nv 0] 76 none false] = H18 at *
    have hv18 := hv16.pre hpY
    have hb18 := hpY.get hb16
    have hbr18 := hbr16.pre hpY
    simp (disch := omega) only [zA, zB, zC, zD, zF, zG, zH, ↓reduceIte, hY, hf18, hm18]
    refine FZ.use (vector_r_ok F hb18 ht18 hXl (by omega)) ?_
    simp (disch := omega) only [zA, zB, zC, zD, zF, zG, zH, ↓reduceIte, hY, hf18, hm18]
    refine FZ.mono (apply_c F hb18 hv18 ht18 (fun x hx => by rw [hAn x hx, hXl]) (by omega) (by omega)) ?_
    rintro v77 H25 ⟨hp25, ha25⟩
    have hAX : (A.map fun x => ldot x X) = bs' := by
      refine List.ext_getElem (by rw [List.length_map]; exact hbl') fun i h1 h2 => ?_
      have hi : i < A.length := by rw [List.length_map] at h1; exact h1
      have := hXs i hi
      simp only [List.getElem_map]
      rw [ldot_dot (hAn _ (List.getElem_mem hi)), ← rowV_at hi, this]
      simp [toV, List.getD_eq_getElem?_getD, List.getElem?_eq_getElem h2]
    rw [hAX] at ha25
    simp (disch := omega) only [zA, zB, zC, zD, zF, zG, zH, ↓reduceIte]
    refine FZ.use (same_e F ha25.row (hbr18.pre hp25) (by omega)) ?_
    have hf25 := hp25.get hf18
    have hm25 := hp25.get hm18
    simp (disch := omega) only [zA, zB, zC, zD, zF, zG, zH, ↓reduceIte, hf25, hm25]
    refine FZ.mono (reduce_p F (hp25.get hb18) (hv18.pre hp25) hAn (by omega) (by omega) hn0) ?_
    rintro v85 H31 ⟨hp31, hr31⟩
    obtain ⟨r1, _, r3⟩ := lreduce_red hAn
    have rw1 := r1.piv.1
    generalize lreduce A = R at *
    obtain ⟨rs, hrs, hrsl, hrr⟩ := hr31.open
    obtain ⟨rl, ri, rd, _⟩ := hrs.allV
    have hm31 := hp31.get hm25
    have hY31 := hp31.get (hp25.get hY)
    obtain ⟨tl, ti, td, _⟩ := ((ht18.pre hp25).pre hp31).all Fl.zero
    refine loopV1.nat n' (fun j v H' => v = nv j ∧ H' = H31) ⟨rfl, rfl⟩ ?_ ?_
    · rintro j _ H32 hj ⟨rfl, rfl⟩ J hJ
      have hjX : j < X.length := by omega
      have d1 := td j hjX
      simp (disch := omega) only [zA, zB, zC, zD, zF, zG, zH, ↓reduceIte, hm31, hj, hY31, ti, hjX, d1]
      refine loopV2.nat R.length (fun i f v H' => v = nv i ∧ H' = H32 ∧ f = .bool (decide (X.getD j Fl.zero = Fl.zero) || (R.take i).any fun y => decide (lpiv y = j))) ⟨rfl, rfl, ?_⟩ ?_ ?_
      · simp [F.eq0]
      · rintro i f _ H33 hi ⟨rfl, rfl, rfl⟩ J2 hJ2
        have hi' : i < rs.length := by omega
        have d2 := rd i hi'
        have htk : R.take (i + 1) = R.take i ++ [R.getD i []] := by rw [List.take_succ_eq_append_getElem hi, getD_at hi]
        have hRi := row_len rw1 hi
        cases hfb : (decide (X.getD j Fl.zero = Fl.zero) || (R.take i).any fun y => decide (lpiv y = j)) with
        | true =>
          simp (disch := omega) only [zA, zB, zC, zD, zF, zG, zH, ↓reduceIte, rl, hrsl, hi]
          refine hJ2 _ _ _ ⟨rfl, rfl, ?_⟩
          rw [htk, List.any_append, ← Bool.or_assoc, hfb]; rfl
        | false =>
          simp (disch := omega) only [zA, zB, zC, zD, zF, zG, zH, ↓reduceIte, rl, hrsl, hi, ri, d2, hi']
          refine FZ.use (pivot_c F (hrr i hi) (by omega)) ?_
          simp (disch := omega) only [zA, zB, zC, zD, zF, zG, zH, ↓reduceIte]
          refine hJ2 _ _ _ ⟨rfl, rfl, ?_⟩
          rw [htk, List.any_append, ← Bool.or_assoc, hfb]; simp
      · rintro f _ H33 ⟨rfl, rfl, rfl⟩ J2
        rw [List.take_length]
        have hfound : (decide (X.getD j Fl.zero = Fl.zero) || R.any fun y => decide (lpiv y = j)) = true := by
          rcases hXz j with h | ⟨y, hy, he⟩
          · rw [decide_eq_true h]; rfl
          · rw [List.any_eq_true.2 ⟨y, hy, decide_eq_true he⟩, Bool.or_true]
        rw [hfound]
        simp (disch := omega) only [zA, zB, zC, zD, zF, zG, zH, ↓reduceIte, rl, hrsl]
        exact hJ _ _ ⟨rfl, rfl⟩
    · rintro _ H32 ⟨rfl, rfl⟩ J
      simp (disch := omega) only [zA, zB, zC, zD, zF, zG, zH, ↓reduceIte, hm31]
      exact (((hp016.trans hpY).trans hp25).trans hp31)
end Go.Sim
