/- Part of the proof: ZMoL. -/
import Derived.Test.YtbfpepbfpebmmaaGreatMBacShSToXfS
import Derived.Test.YtbfpepbfpebmmaaGreatMBacZShMixToZPfFieldI
import Derived.KernelRfl
set_option linter.all false
set_option maxRecDepth 100000
namespace Go.Sim
open Go Go.Proofs
def xd5 : XD := (.seq (.reg [yS 0 3 (.box 24) [oT 0], yS 1 4 (.box 24) [oT 1], yS 2 5 (.box 25) [oT 2], yS 3 6 .mov [oC (.bool false)]]) (.seq (.reg [yS 0 17 .call [oF 11], yS 1 7 .mov [oT 17]]) (.seq (.reg [yS 0 18 (.fld 0) [oT 3], yS 1 19 (.ld none) [oT 18], yS 2 20 (.fld 0) [oT 4], yN 3 (.st 1) [oT 20, oT 19]]) (.seq (.seq (.reg [yS 0 21 .mov [oT 7], yS 1 22 (.un .not) [oT 21]]) (.cond (oT 22) (.seq (.reg [yS 0 6 .mov [oC (.bool false)]]) .ret) .skip)) (.seq (.reg [yS 0 23 (.ld (some 4)) [oT 3], yS 1 24 .call [oF 12, oT 23], yS 2 8 (.new [(nv 0), (nv 0), (.slice none 0 0)] 29) [], yN 3 (.st 3) [oT 8, oT 24]]) (.seq (.reg [yS 0 25 (.ld (some 4)) [oT 4], yS 1 26 .call [oF 12, oT 25], yS 2 9 (.new [(nv 0), (nv 0), (.slice none 0 0)] 29) [], yN 3 (.st 3) [oT 9, oT 26]]) (.seq (.reg [yS 0 27 (.fld 1) [oT 8], ⟨none, (.ld none), [oT 27], some 28, 1, true, []⟩, yS 2 29 (.ld (some 6)) [oT 5], ⟨none, .call, [oF 14, oT 29], some 30, 3, false, [1]⟩, yS 4 31 .call [oF 13, oT 28, oT 30], yS 5 10 .mov [oT 31]]) (.seq (.reg [yS 0 32 (.ld (some 3)) [oT 8], yS 1 33 .call [oF 16, oT 32], yS 2 11 (.new [(nv 0), (nv 0), (.slice none 0 0), (nv 0)] 37) [], yN 3 (.st 4) [oT 11, oT 33]]) (.seq (.seq (.reg [yS 0 34 (.fld 3) [oT 11], yS 1 35 (.ld none) [oT 34], yS 2 36 (.bin .neq 0) [oT 35, oC (nv 0)], yS 3 37 .mov [oT 36], yG (some (37, false)) 4 (some 38) (.fld 0) [oT 11], yG (some (37, false)) 5 (some 39) (.ld (some 3)) [oT 38], yG (some (37, false)) 6 (some 40) (.fld 1) [oT 8], yG (some (37, false)) 7 (some 41) (.ld none) [oT 40], ⟨(some (37, false)), (.ld (some 3)), [oT 8], some 43, 9, true, []⟩, ⟨(some (37, false)), .call, [oF 18, oT 39, oT 41], some 42, 8, false, [9]⟩, yG (some (37, false)) 10 (some 44) .call [oF 36, oT 42, oT 43], yG (some (37, false)) 11 (some 45) (.un .not) [oT 44], yS 12 46 .pick [oT 37, oC (.bool true), oT 45], yS 13 47 .mov [oT 46], yG (some (47, false)) 14 (some 48) (.ld (some 3)) [oT 8], yG (some (47, false)) 15 (some 49) .mov [oT 10], yG (some (47, false)) 18 (some 52) .mov [oT 10], ⟨(some (47, false)), (.ld (some 3)), [oT 8], some 55, 21, true, []⟩, ⟨(some (47, false)), .call, [oF 30, oT 48, oT 49], some 50, 16, false, [21]⟩, yG (some (47, false)) 17 (some 51) (.prt (some 3) 0) [oT 50], ⟨(some (47, false)), .call, [oF 37, oT 52], some 53, 19, false, [21]⟩, ⟨(some (47, false)), .call, [oF 30, oT 51, oT 53], some 54, 20, false, [21]⟩, yG (some (47, false)) 22 (some 56) .call [oF 36, oT 54, oT 55], yG (some (47, false)) 23 (some 57) (.un .not) [oT 56], yS 24 58 .pick [oT 47, oC (.bool true), oT 57]]) (.cond (oT 58) (.seq (.reg [yS 0 6 .mov [oC (.bool false)]]) .ret) .skip)) (.seq (.seq (.reg [yS 0 59 (.fld 0) [oT 8], yS 1 60 (.ld none) [oT 59], yS 2 61 (.bin .eql 0) [oT 60, oC (nv 2)], yS 3 62 .mov [oT 61], yG (some (62, true)) 4 (some 63) (.ld (some 3)) [oT 8], ⟨(some (62, true)), (.ld (some 3)), [oT 8], some 67, 8, true, []⟩, ⟨(some (62, true)), .call, [oF 28, oT 63], some 64, 5, false, [8]⟩, yG (some (62, true)) 6 (some 65) (.prt (some 3) 0) [oT 64], ⟨(some (62, true)), .call, [oF 28, oT 65], some 66, 7, false, [8]⟩, yG (some (62, true)) 9 (some 68) .call [oF 28, oT 67], yG (some (62, true)) 10 (some 69) (.prt (some 3) 0) [oT 68], yG (some (62, true)) 11 (some 70) .call [oF 36, oT 66, oT 69], yG (some (62, true)) 12 (some 71) (.un .not) [oT 70], yG (some (62, true)) 13 (some 72) .mov [oT 71], yG (some (72, false)) 14 (some 73) (.fld 0) [oT 11], yG (some (72, false)) 15 (some 74) (.ld (some 3)) [oT 73], yG (some (72, false)) 17 (some 76) (.fld 0) [oT 11], ⟨(some (72, false)), (.ld (some 3)), [oT 76], some 77, 18, true, []⟩, ⟨(some (72, false)), .call, [oF 28, oT 74], some 75, 16, false, [18]⟩, yG (some (72, false)) 19 (some 78) .call [oF 36, oT 75, oT 77], yG (some (72, false)) 20 (some 79) (.un .not) [oT 78], yG (some (62, true)) 21 (some 80) .pick [oT 72, oC (.bool true), oT 79], yS 22 81 .pick [oT 62, oT 80, oC (.bool false)]]) (.cond (oT 81) (.seq (.reg [yS 0 6 .mov [oC (.bool false)]]) .ret) .skip)) (.seq (.reg [yS 0 82 (.ld (some 3)) [oT 8], yS 1 83 (.ld (some 3)) [oT 9], yS 2 84 .call [oF 22, oT 82, oT 83], yS 3 12 (.new [(nv 0), (nv 0), (.slice none 0 0), (nv 0)] 37) [], yN 4 (.st 4) [oT 12, oT 84]]) (.seq (.reg [yS 0 85 (.ld (some 4)) [oT 12], yS 1 13 (.new [(nv 0), (nv 0), (.slice none 0 0), (nv 0)] 37) [], yN 2 (.st 4) [oT 13, oT 85]]) (.seq (.reg [yS 0 86 (.ld (some 4)) [oT 12], yS 1 14 (.new [(nv 0), (nv 0), (.slice none 0 0), (nv 0)] 37) [], yN 2 (.st 4) [oT 14, oT 86]]) (.seq (.seq (.reg [yS 0 15 .mov [oC (nv 0)]]) (.block 0 (.loop [15] 633670557609204028213989244928 (.seq (.seq (.reg [yS 0 87 .mov [oT 15], yS 1 88 (.fld 1) [oT 8], yS 2 89 (.ld none) [oT 88], yS 3 90 (.bin .lss 0) [oT 87, oT 89]]) (.cond (oT 90) .skip (.exit 0))) (.seq (.block 1 (.seq (.reg [yS 0 93 (.fld 0) [oT 13], yS 1 94 (.ld (some 3)) [oT 93], yS 2 95 .call [oF 18, oT 94, oC (nv 0)], yN 3 (.st 4) [oT 13, oT 95]]) (.reg [yS 0 96 (.fld 0) [oT 14], yS 1 97 (.ld (some 3)) [oT 96], yS 2 98 .call [oF 20, oT 97, oC (nv 0)], yN 3 (.st 4) [oT 14, oT 98]]))) (.reg [yS 0 91 .mov [oT 15], yS 1 92 (.bin .add 0) [oT 91, oC (nv 1)], yS 2 15 .mov [oT 92]])))))) (.seq (.seq (.reg [yS 0 99 (.fld 3) [oT 12], yS 1 100 (.ld none) [oT 99], yS 2 101 (.bin .neq 0) [oT 100, oC (nv 0)], yS 3 102 .mov [oT 101], yG (some (102, false)) 4 (some 103) (.ld (some 4)) [oT 13], yG (some (102, false)) 5 (some 104) (.ld (some 3)) [oT 9], yG (some (102, false)) 6 (some 105) .call [oF 36, oT 103, oT 104], yG (some (102, false)) 7 (some 106) (.un .not) [oT 105], yS 8 107 .pick [oT 102, oC (.bool true), oT 106], yS 9 108 .mov [oT 107], yG (some (108, false)) 10 (some 109) (.ld (some 4)) [oT 14], yG (some (108, false)) 11 (some 110) (.ld (some 3)) [oT 9], yG (some (108, false)) 12 (some 111) .call [oF 36, oT 109, oT 110], yG (some (108, false)) 13 (some 112) (.un .not) [oT 111], yS 14 113 .pick [oT 108, oC (.bool true), oT 112]]) (.cond (oT 113) (.seq (.reg [yS 0 6 .mov [oC (.bool false)]]) .ret) .skip)) (.seq (.reg [yS 0 114 (.ld (some 4)) [oT 12], yN 1 (.st 4) [oT 13, oT 114]]) (.seq (.reg [yS 0 115 (.ld (some 4)) [oT 12], yN 1 (.st 4) [oT 14, oT 115]]) (.seq (.seq (.reg [yS 0 116 (.fld 1) [oT 8], yS 1 117 (.ld none) [oT 116], yS 2 118 (.fld 1) [oT 9], yS 3 119 (.ld none) [oT 118], yS 4 120 (.bin .add 0) [oT 117, oT 119], yS 5 121 (.bin .sub 0) [oT 120, oC (nv 1)], yS 6 16 .mov [oT 121]]) (.block 2 (.loop [16] 87106969019777106983132284274291540819968 (.seq (.seq (.reg [yS 0 122 .mov [oT 16], yS 1 123 (.fld 1) [oT 8], yS 2 124 (.ld none) [oT 123], yS 3 125 (.bin .geq 0) [oT 122, oT 124]]) (.cond (oT 125) .skip (.exit 2))) (.seq (.block 3 (.seq (.reg [yS 0 128 (.fld 0) [oT 13], yS 1 129 (.ld (some 3)) [oT 128], yS 2 130 .mov [oT 16], yS 3 131 .call [oF 18, oT 129, oT 130], yN 4 (.st 4) [oT 13, oT 131]]) (.reg [yS 0 132 (.fld 0) [oT 14], yS 1 133 (.ld (some 3)) [oT 132], yS 2 134 .mov [oT 16], yS 3 135 .call [oF 20, oT 133, oT 134], yN 4 (.st 4) [oT 14, oT 135]]))) (.reg [yS 0 126 .mov [oT 16], yS 1 127 (.bin .sub 0) [oT 126, oC (nv 1)], yS 2 16 .mov [oT 127]])))))) (.seq (.reg [yS 0 136 .mov [oT 7], yS 1 137 .mov [oT 136], yG (some (137, true)) 2 (some 138) (.ld (some 4)) [oT 13], yG (some (137, true)) 3 (some 139) (.ld (some 3)) [oT 8], yG (some (137, true)) 4 (some 140) .call [oF 36, oT 138, oT 139], yS 5 141 .pick [oT 137, oT 140, oC (.bool false)], yS 6 142 .mov [oT 141], yG (some (142, true)) 7 (some 143) (.ld (some 4)) [oT 14], yG (some (142, true)) 8 (some 144) (.ld (some 3)) [oT 8], yG (some (142, true)) 9 (some 145) .call [oF 36, oT 143, oT 144], yS 10 146 .pick [oT 142, oT 145, oC (.bool false)], yS 11 6 .mov [oT 146]]) .ret)))))))))))))))))))
theorem xd5_ok : compF Tryz.prog 5 = some ⟨147, [(.tmp 6)], xd5.er⟩ := by kernel_rfl
def g5 (x0 y1 z2 : Value) (H : AH) (R : Value → AH → Prop) : Prop :=
 @letH (H ++ [.cells (cellsL x0) 24 none false]) ⟨fun H1 =>
 @letH (H1 ++ [.cells (cellsL y1) 24 none false]) ⟨fun H2 =>
 @letH (H2 ++ [.cells (cellsL z2) 25 none false]) ⟨fun H3 =>
 @cG 11 [] H3 ⟨fun v17 H4 =>
 @bindO (xpure (.fld 0) [(.pointer (some ⟨H.length, 0, none⟩))]) ⟨fun v18 =>
 @bindO (xload none H4 [v18]) ⟨fun v19 =>
 @bindO (xpure (.fld 0) [(.pointer (some ⟨H1.length, 0, none⟩))]) ⟨fun v20 =>
 @bindP (xact (.st 1) H4 [v20, v19]) ⟨fun _v H5 =>
 @bindO (eun .not v17) ⟨fun v22 =>
 @condK v22 ⟨fun q => if q = true then R (.bool false) H5 else
 @bindO (xload (some 4) H5 [(.pointer (some ⟨H.length, 0, none⟩))]) ⟨fun v23 =>
 @cG 12 [v23] H5 ⟨fun v24 H6 =>
 @letH (H6 ++ [.cells [(nv 0), (nv 0), (.slice none 0 0)] 29 none false]) ⟨fun H7 =>
 @bindP (xact (.st 3) H7 [(.pointer (some ⟨H6.length, 0, none⟩)), v24]) ⟨fun _v H8 =>
 @bindO (xload (some 4) H8 [(.pointer (some ⟨H1.length, 0, none⟩))]) ⟨fun v25 =>
 @cG 12 [v25] H8 ⟨fun v26 H9 =>
 @letH (H9 ++ [.cells [(nv 0), (nv 0), (.slice none 0 0)] 29 none false]) ⟨fun H10 =>
 @bindP (xact (.st 3) H10 [(.pointer (some ⟨H9.length, 0, none⟩)), v26]) ⟨fun _v H11 =>
 @bindO (xpure (.fld 1) [(.pointer (some ⟨H6.length, 0, none⟩))]) ⟨fun v27 =>
 @bindO (xload none H11 [v27]) ⟨fun v28 =>
 @bindO (xload (some 6) H11 [(.pointer (some ⟨H2.length, 0, none⟩))]) ⟨fun v29 =>
 @cG 14 [v29] H11 ⟨fun v30 H12 =>
 (chkX [1] (⟨1, none, [v27], v28⟩ :: []) H12 ∧ @cG 13 [v28, v30] H12 ⟨fun v31 H13 =>
 @bindO (xload (some 3) H13 [(.pointer (some ⟨H6.length, 0, none⟩))]) ⟨fun v32 =>
 @cG 16 [v32] H13 ⟨fun v33 H14 =>
 @letH (H14 ++ [.cells [(nv 0), (nv 0), (.slice none 0 0), (nv 0)] 37 none false]) ⟨fun H15 =>
 @bindP (xact (.st 4) H15 [(.pointer (some ⟨H14.length, 0, none⟩)), v33]) ⟨fun _v H16 =>
 @bindO (xpure (.fld 3) [(.pointer (some ⟨H14.length, 0, none⟩))]) ⟨fun v34 =>
 @bindO (xload none H16 [v34]) ⟨fun v35 =>
 @bindO (xbin .neq 0 v35 (nv 0)) ⟨fun v36 =>
 @guardJ (asNB v36) (fun J1 => @bindO (xpure (.fld 0) [(.pointer (some ⟨H14.length, 0, none⟩))]) ⟨fun v38 =>
 J1 v38 H16⟩) H16 ⟨fun v38a H17 =>
 @guardJ (asNB v36) (fun J2 => @bindO (xload (some 3) H17 [v38a]) ⟨fun v39 =>
 J2 v39 H17⟩) H17 ⟨fun v39a H18 =>
 @guardJ (asNB v36) (fun J3 => @bindO (xpure (.fld 1) [(.pointer (some ⟨H6.length, 0, none⟩))]) ⟨fun v40 =>
 J3 v40 H18⟩) H18 ⟨fun v40a H19 =>
 @guardJ (asNB v36) (fun J4 => @bindO (xload none H19 [v40a]) ⟨fun v41 =>
 J4 v41 H19⟩) H19 ⟨fun v41a H20 =>
 @guardJ (asNB v36) (fun J5 => @bindO (xload (some 3) H20 [(.pointer (some ⟨H6.length, 0, none⟩))]) ⟨fun v43 =>
 J5 v43 H20⟩) H20 ⟨fun v43a H21 => @letD (bif (asNB v36) then ⟨9, (some 3), [(.pointer (some ⟨H6.length, 0, none⟩))], v43a⟩ :: [] else []) ⟨fun D1 =>
 @guardJ (asNB v36) (fun J6 => @cG 18 [v39a, v41a] H21 ⟨fun v42 H22 =>
 (chkX [9] D1 H22 ∧ J6 v42 H22)⟩) H21 ⟨fun v42a H23 =>
 @guardJ (asNB v36) (fun J7 => @cG 36 [v42a, v43a] H23 ⟨fun v44 H24 =>
 J7 v44 H24⟩) H23 ⟨fun v44a H25 =>
 @guardJ (asNB v36) (fun J8 => @bindO (eun .not v44a) ⟨fun v45 =>
 J8 v45 H25⟩) H25 ⟨fun v45a H26 =>
 @pickK v36 (.bool true) v45a ⟨fun v46 =>
 @guardJ (asNB v46) (fun J9 => @bindO (xload (some 3) H26 [(.pointer (some ⟨H6.length, 0, none⟩))]) ⟨fun v48 =>
 J9 v48 H26⟩) H26 ⟨fun v48a H27 =>
 @guardJ (asNB v46) (fun J10 => J10 v31 H27) H27 ⟨fun v49 H28 =>
 @guardJ (asNB v46) (fun J11 => J11 v31 H28) H28 ⟨fun v52 H29 =>
 @guardJ (asNB v46) (fun J12 => @bindO (xload (some 3) H29 [(.pointer (some ⟨H6.length, 0, none⟩))]) ⟨fun v55 =>
 J12 v55 H29⟩) H29 ⟨fun v55a H30 => @letD (bif (asNB v46) then ⟨21, (some 3), [(.pointer (some ⟨H6.length, 0, none⟩))], v55a⟩ :: D1 else D1) ⟨fun D2 =>
 @guardJ (asNB v46) (fun J13 => @cG 30 [v48a, v49] H30 ⟨fun v50 H31 =>
 (chkX [21] D2 H31 ∧ J13 v50 H31)⟩) H30 ⟨fun v50a H32 =>
 @guardJ (asNB v46) (fun J14 => @bindO (xpure (.prt (some 3) 0) [v50a]) ⟨fun v51 =>
 J14 v51 H32⟩) H32 ⟨fun v51a H33 =>
 @guardJ (asNB v46) (fun J15 => @cG 37 [v52] H33 ⟨fun v53 H34 =>
 (chkX [21] D2 H34 ∧ J15 v53 H34)⟩) H33 ⟨fun v53a H35 =>
 @guardJ (asNB v46) (fun J16 => @cG 30 [v51a, v53a] H35 ⟨fun v54 H36 =>
 (chkX [21] D2 H36 ∧ J16 v54 H36)⟩) H35 ⟨fun v54a H37 =>
 @guardJ (asNB v46) (fun J17 => @cG 36 [v54a, v55a] H37 ⟨fun v56 H38 =>
 J17 v56 H38⟩) H37 ⟨fun v56a H39 =>
 @guardJ (asNB v46) (fun J18 => @bindO (eun .not v56a) ⟨fun v57 =>
 J18 v57 H39⟩) H39 ⟨fun v57a H40 =>
 @pickK v46 (.bool true) v57a ⟨fun v58 =>
 @condK v58 ⟨fun q => if q = true then R (.bool false) H40 else
 @bindO (xpure (.fld 0) [(.pointer (some ⟨H6.length, 0, none⟩))]) ⟨fun v59 =>
 @bindO (xload none H40 [v59]) ⟨fun v60 =>
 @bindO (xbin .eql 0 v60 (nv 2)) ⟨fun v61 =>
 @guardJ (asB v61) (fun J19 => @bindO (xload (some 3) H40 [(.pointer (some ⟨H6.length, 0, none⟩))]) ⟨fun v63 =>
 J19 v63 H40⟩) H40 ⟨fun v63a H41 =>
 @guardJ (asB v61) (fun J20 => @bindO (xload (some 3) H41 [(.pointer (some ⟨H6.length, 0, none⟩))]) ⟨fun v67 =>
 J20 v67 H41⟩) H41 ⟨fun v67a H42 => @letD (bif (asB v61) then ⟨8, (some 3), [(.pointer (some ⟨H6.length, 0, none⟩))], v67a⟩ :: [] else []) ⟨fun D3 =>
 @guardJ (asB v61) (fun J21 => @cG 28 [v63a] H42 ⟨fun v64 H43 =>
 (chkX [8] D3 H43 ∧ J21 v64 H43)⟩) H42 ⟨fun v64a H44 =>
 @guardJ (asB v61) (fun J22 => @bindO (xpure (.prt (some 3) 0) [v64a]) ⟨fun v65 =>
 J22 v65 H44⟩) H44 ⟨fun v65a H45 =>
 @guardJ (asB v61) (fun J23 => @cG 28 [v65a] H45 ⟨fun v66 H46 =>
 (chkX [8] D3 H46 ∧ J23 v66 H46)⟩) H45 ⟨fun v66a H47 =>
 @guardJ (asB v61) (fun J24 => @cG 28 [v67a] H47 ⟨fun v68 H48 =>
 J24 v68 H48⟩) H47 ⟨fun v68a H49 =>
 @guardJ (asB v61) (fun J25 => @bindO (xpure (.prt (some 3) 0) [v68a]) ⟨fun v69 =>
 J25 v69 H49⟩) H49 ⟨fun v69a H50 =>
 @guardJ (asB v61) (fun J26 => @cG 36 [v66a, v69a] H50 ⟨fun v70 H51 =>
 J26 v70 H51⟩) H50 ⟨fun v70a H52 =>
 @guardJ (asB v61) (fun J27 => @bindO (eun .not v70a) ⟨fun v71 =>
 J27 v71 H52⟩) H52 ⟨fun v71a H53 =>
 @guardJ (asB v61) (fun J28 => J28 v71a H53) H53 ⟨fun v72 H54 =>
 @guardJ (asNB v72) (fun J29 => @bindO (xpure (.fld 0) [(.pointer (some ⟨H14.length, 0, none⟩))]) ⟨fun v73 =>
 J29 v73 H54⟩) H54 ⟨fun v73a H55 =>
 @guardJ (asNB v72) (fun J30 => @bindO (xload (some 3) H55 [v73a]) ⟨fun v74 =>
 J30 v74 H55⟩) H55 ⟨fun v74a H56 =>
 @guardJ (asNB v72) (fun J31 => @bindO (xpure (.fld 0) [(.pointer (some ⟨H14.length, 0, none⟩))]) ⟨fun v76 =>
 J31 v76 H56⟩) H56 ⟨fun v76a H57 =>
 @guardJ (asNB v72) (fun J32 => @bindO (xload (some 3) H57 [v76a]) ⟨fun v77 =>
 J32 v77 H57⟩) H57 ⟨fun v77a H58 => @letD (bif (asNB v72) then ⟨18, (some 3), [v76a], v77a⟩ :: D3 else D3) ⟨fun D4 =>
 @guardJ (asNB v72) (fun J33 => @cG 28 [v74a] H58 ⟨fun v75 H59 =>
 (chkX [18] D4 H59 ∧ J33 v75 H59)⟩) H58 ⟨fun v75a H60 =>
 @guardJ (asNB v72) (fun J34 => @cG 36 [v75a, v77a] H60 ⟨fun v78 H61 =>
 J34 v78 H61⟩) H60 ⟨fun v78a H62 =>
 @guardJ (asNB v72) (fun J35 => @bindO (eun .not v78a) ⟨fun v79 =>
 J35 v79 H62⟩) H62 ⟨fun v79a H63 =>
 @guardJ (asB v61) (fun J36 => @pickK v72 (.bool true) v79a ⟨fun v80 =>
 J36 v80 H63⟩) H63 ⟨fun v80a H64 =>
 @pickK v61 v80a (.bool false) ⟨fun v81 =>
 @condK v81 ⟨fun q => if q = true then R (.bool false) H64 else
 @bindO (xload (some 3) H64 [(.pointer (some ⟨H6.length, 0, none⟩))]) ⟨fun v82 =>
 @bindO (xload (some 3) H64 [(.pointer (some ⟨H9.length, 0, none⟩))]) ⟨fun v83 =>
 @cG 22 [v82, v83] H64 ⟨fun v84 H65 =>
 @letH (H65 ++ [.cells [(nv 0), (nv 0), (.slice none 0 0), (nv 0)] 37 none false]) ⟨fun H66 =>
 @bindP (xact (.st 4) H66 [(.pointer (some ⟨H65.length, 0, none⟩)), v84]) ⟨fun _v H67 =>
 @bindO (xload (some 4) H67 [(.pointer (some ⟨H65.length, 0, none⟩))]) ⟨fun v85 =>
 @letH (H67 ++ [.cells [(nv 0), (nv 0), (.slice none 0 0), (nv 0)] 37 none false]) ⟨fun H68 =>
 @bindP (xact (.st 4) H68 [(.pointer (some ⟨H67.length, 0, none⟩)), v85]) ⟨fun _v H69 =>
 @bindO (xload (some 4) H69 [(.pointer (some ⟨H65.length, 0, none⟩))]) ⟨fun v86 =>
 @letH (H69 ++ [.cells [(nv 0), (nv 0), (.slice none 0 0), (nv 0)] 37 none false]) ⟨fun H70 =>
 @bindP (xact (.st 4) H70 [(.pointer (some ⟨H69.length, 0, none⟩)), v86]) ⟨fun _v H71 =>
 @loopV1 (nv 0) H71 ⟨fun i15 H72 K37 =>
 @bindO (xpure (.fld 1) [(.pointer (some ⟨H6.length, 0, none⟩))]) ⟨fun v88 =>
 @bindO (xload none H72 [v88]) ⟨fun v89 =>
 @bindO (xbin .lss 0 i15 v89) ⟨fun v90 =>
 @condK v90 ⟨fun q => if q = true then @bindO (xpure (.fld 0) [(.pointer (some ⟨H67.length, 0, none⟩))]) ⟨fun v93 =>
 @bindO (xload (some 3) H72 [v93]) ⟨fun v94 =>
 @cG 18 [v94, (nv 0)] H72 ⟨fun v95 H73 =>
 @bindP (xact (.st 4) H73 [(.pointer (some ⟨H67.length, 0, none⟩)), v95]) ⟨fun _v H74 =>
 @bindO (xpure (.fld 0) [(.pointer (some ⟨H69.length, 0, none⟩))]) ⟨fun v96 =>
 @bindO (xload (some 3) H74 [v96]) ⟨fun v97 =>
 @cG 20 [v97, (nv 0)] H74 ⟨fun v98 H75 =>
 @bindP (xact (.st 4) H75 [(.pointer (some ⟨H69.length, 0, none⟩)), v98]) ⟨fun _v H76 =>
 @bindO (xbin .add 0 i15 (nv 1)) ⟨fun v92 =>
 K37 v92 H76⟩⟩⟩⟩⟩⟩⟩⟩⟩ else
 @bindO (xpure (.fld 3) [(.pointer (some ⟨H65.length, 0, none⟩))]) ⟨fun v99 =>
 @bindO (xload none H72 [v99]) ⟨fun v100 =>
 @bindO (xbin .neq 0 v100 (nv 0)) ⟨fun v101 =>
 @guardJ (asNB v101) (fun J38 => @bindO (xload (some 4) H72 [(.pointer (some ⟨H67.length, 0, none⟩))]) ⟨fun v103 =>
 J38 v103 H72⟩) H72 ⟨fun v103a H77 =>
 @guardJ (asNB v101) (fun J39 => @bindO (xload (some 3) H77 [(.pointer (some ⟨H9.length, 0, none⟩))]) ⟨fun v104 =>
 J39 v104 H77⟩) H77 ⟨fun v104a H78 =>
 @guardJ (asNB v101) (fun J40 => @cG 36 [v103a, v104a] H78 ⟨fun v105 H79 =>
 J40 v105 H79⟩) H78 ⟨fun v105a H80 =>
 @guardJ (asNB v101) (fun J41 => @bindO (eun .not v105a) ⟨fun v106 =>
 J41 v106 H80⟩) H80 ⟨fun v106a H81 =>
 @pickK v101 (.bool true) v106a ⟨fun v107 =>
 @guardJ (asNB v107) (fun J42 => @bindO (xload (some 4) H81 [(.pointer (some ⟨H69.length, 0, none⟩))]) ⟨fun v109 =>
 J42 v109 H81⟩) H81 ⟨fun v109a H82 =>
 @guardJ (asNB v107) (fun J43 => @bindO (xload (some 3) H82 [(.pointer (some ⟨H9.length, 0, none⟩))]) ⟨fun v110 =>
 J43 v110 H82⟩) H82 ⟨fun v110a H83 =>
 @guardJ (asNB v107) (fun J44 => @cG 36 [v109a, v110a] H83 ⟨fun v111 H84 =>
 J44 v111 H84⟩) H83 ⟨fun v111a H85 =>
 @guardJ (asNB v107) (fun J45 => @bindO (eun .not v111a) ⟨fun v112 =>
 J45 v112 H85⟩) H85 ⟨fun v112a H86 =>
 @pickK v107 (.bool true) v112a ⟨fun v113 =>
 @condK v113 ⟨fun q => if q = true then R (.bool false) H86 else
 @bindO (xload (some 4) H86 [(.pointer (some ⟨H65.length, 0, none⟩))]) ⟨fun v114 =>
 @bindP (xact (.st 4) H86 [(.pointer (some ⟨H67.length, 0, none⟩)), v114]) ⟨fun _v H87 =>
 @bindO (xload (some 4) H87 [(.pointer (some ⟨H65.length, 0, none⟩))]) ⟨fun v115 =>
 @bindP (xact (.st 4) H87 [(.pointer (some ⟨H69.length, 0, none⟩)), v115]) ⟨fun _v H88 =>
 @bindO (xpure (.fld 1) [(.pointer (some ⟨H6.length, 0, none⟩))]) ⟨fun v116 =>
 @bindO (xload none H88 [v116]) ⟨fun v117 =>
 @bindO (xpure (.fld 1) [(.pointer (some ⟨H9.length, 0, none⟩))]) ⟨fun v118 =>
 @bindO (xload none H88 [v118]) ⟨fun v119 =>
 @bindO (xbin .add 0 v117 v119) ⟨fun v120 =>
 @bindO (xbin .sub 0 v120 (nv 1)) ⟨fun v121 =>
 @loopV1 v121 H88 ⟨fun i16 H89 K46 =>
 @bindO (xpure (.fld 1) [(.pointer (some ⟨H6.length, 0, none⟩))]) ⟨fun v123 =>
 @bindO (xload none H89 [v123]) ⟨fun v124 =>
 @bindO (xbin .geq 0 i16 v124) ⟨fun v125 =>
 @condK v125 ⟨fun q => if q = true then @bindO (xpure (.fld 0) [(.pointer (some ⟨H67.length, 0, none⟩))]) ⟨fun v128 =>
 @bindO (xload (some 3) H89 [v128]) ⟨fun v129 =>
 @cG 18 [v129, i16] H89 ⟨fun v131 H90 =>
 @bindP (xact (.st 4) H90 [(.pointer (some ⟨H67.length, 0, none⟩)), v131]) ⟨fun _v H91 =>
 @bindO (xpure (.fld 0) [(.pointer (some ⟨H69.length, 0, none⟩))]) ⟨fun v132 =>
 @bindO (xload (some 3) H91 [v132]) ⟨fun v133 =>
 @cG 20 [v133, i16] H91 ⟨fun v135 H92 =>
 @bindP (xact (.st 4) H92 [(.pointer (some ⟨H69.length, 0, none⟩)), v135]) ⟨fun _v H93 =>
 @bindO (xbin .sub 0 i16 (nv 1)) ⟨fun v127 =>
 K46 v127 H93⟩⟩⟩⟩⟩⟩⟩⟩⟩ else
 @guardJ (asB v17) (fun J47 => @bindO (xload (some 4) H89 [(.pointer (some ⟨H67.length, 0, none⟩))]) ⟨fun v138 =>
 J47 v138 H89⟩) H89 ⟨fun v138a H94 =>
 @guardJ (asB v17) (fun J48 => @bindO (xload (some 3) H94 [(.pointer (some ⟨H6.length, 0, none⟩))]) ⟨fun v139 =>
 J48 v139 H94⟩) H94 ⟨fun v139a H95 =>
 @guardJ (asB v17) (fun J49 => @cG 36 [v138a, v139a] H95 ⟨fun v140 H96 =>
 J49 v140 H96⟩) H95 ⟨fun v140a H97 =>
 @pickK v17 v140a (.bool false) ⟨fun v141 =>
 @guardJ (asB v141) (fun J50 => @bindO (xload (some 4) H97 [(.pointer (some ⟨H69.length, 0, none⟩))]) ⟨fun v143 =>
 J50 v143 H97⟩) H97 ⟨fun v143a H98 =>
 @guardJ (asB v141) (fun J51 => @bindO (xload (some 3) H98 [(.pointer (some ⟨H6.length, 0, none⟩))]) ⟨fun v144 =>
 J51 v144 H98⟩) H98 ⟨fun v144a H99 =>
 @guardJ (asB v141) (fun J52 => @cG 36 [v143a, v144a] H99 ⟨fun v145 H100 =>
 J52 v145 H100⟩) H99 ⟨fun v145a H101 =>
 @pickK v141 v145a (.bool false) ⟨fun v146 =>
 R v146 H101⟩⟩⟩⟩⟩⟩⟩⟩⟩⟩⟩⟩⟩⟩⟩⟩⟩⟩⟩⟩⟩⟩⟩⟩⟩⟩⟩⟩⟩⟩⟩⟩⟩⟩⟩⟩⟩⟩⟩⟩⟩⟩⟩⟩⟩⟩⟩⟩⟩⟩⟩⟩⟩⟩⟩⟩⟩⟩⟩⟩⟩⟩⟩⟩⟩⟩⟩⟩⟩⟩⟩⟩⟩⟩⟩⟩⟩⟩⟩⟩⟩⟩⟩⟩⟩⟩⟩⟩⟩⟩⟩⟩⟩⟩⟩⟩⟩⟩⟩⟩⟩⟩⟩⟩⟩⟩⟩⟩⟩)⟩⟩⟩⟩⟩⟩⟩⟩⟩⟩⟩⟩⟩⟩⟩⟩⟩⟩⟩⟩⟩⟩
theorem g5_of {x0 y1 z2 : Value} {H : AH} {R : Value → AH → Prop} (h : g5 x0 y1 z2 H R) : FN Tryz.prog 5 [x0, y1, z2] H R :=
  FN.of_XD mixed xd5_ok (by kernel_rfl) (Nat.le_of_ble_eq_true rfl) (cast (by kernel_rfl) h)
end Go.Sim
