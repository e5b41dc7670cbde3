/- Part of the proof: SpG2, SpL9. -/
import Derived.Test.YtgcoidbhikfdkaaSShSToShF
import Derived.Test.YtgcoidbhikfdkaaSShMix
import Derived.KernelRfl
import Derived.Test.YtgcoidbhikfdkaaSSpW3ToSpX10
set_option linter.all false
set_option maxRecDepth 100000
namespace Go.Sim
open Go Go.Proofs
def xd9 : XD := (.seq (.reg [yS 0 2 (.box 58) [oT 0], yS 1 4 .mov [oC (.bool false)]]) (.seq (.reg [yS 0 13 .call [oF 29], yS 1 5 .mov [oT 13]]) (.seq (.seq (.reg [yS 0 14 .mov [oT 5], yS 1 15 (.un .not) [oT 14]]) (.cond (oT 15) (.seq (.reg [yS 0 4 .mov [oC (.bool false)]]) .ret) .skip)) (.seq (.reg [yS 0 16 (.ld (some 4)) [oT 2], yS 1 17 .call [oF 30, oT 16], yS 2 6 (.new [(nv 0), (nv 0), (.slice none 0 0), (nv 0), (.slice none 0 0)] 63) [], yN 3 (.st 5) [oT 6, oT 17]]) (.seq (.reg [yS 0 18 (.fld 0) [oT 6], yS 1 19 (.ld (some 3)) [oT 18], yS 2 7 (.new [(nv 0), (nv 0), (.slice none 0 0)] 61) [], yN 3 (.st 3) [oT 7, oT 19]]) (.seq (.reg [yS 0 20 (.ld (some 3)) [oT 7], yS 1 21 (.fld 3) [oT 6], yS 2 22 (.ld none) [oT 21], yS 3 23 (.fld 4) [oT 6], yS 4 24 (.ld none) [oT 23], yS 5 25 .call [oF 38, oT 20, oT 22, oT 24], yS 6 8 .mov [oT 25]]) (.seq (.seq (.reg [yS 0 26 (.fld 3) [oT 6], yS 1 27 (.ld none) [oT 26], yS 2 28 .mov [oT 8], yS 3 29 .call [oF 56, oT 27, oT 28], yS 4 30 (.un .not) [oT 29], yS 5 31 .mov [oT 30], yG (some (31, false)) 6 (some 32) (.ld (some 3)) [oT 7], yG (some (31, false)) 7 (some 33) (.fld 3) [oT 6], yG (some (31, false)) 8 (some 34) (.ld none) [oT 33], yG (some (31, false)) 9 (some 35) .mov [oT 8], yG (some (31, false)) 10 (some 36) .call [oF 55, oT 32, oT 34, oT 35], yG (some (31, false)) 11 (some 37) (.un .not) [oT 36], yS 12 38 .pick [oT 31, oC (.bool true), oT 37], yS 13 39 .mov [oT 38], yG (some (39, false)) 14 (some 40) .mov [oT 8], yG (some (39, false)) 15 (some 41) .lenS [oT 40], yG (some (39, false)) 16 (some 42) (.ld (some 3)) [oT 7], yG (some (39, false)) 17 (some 43) (.fld 4) [oT 6], yG (some (39, false)) 18 (some 44) (.ld none) [oT 43], yG (some (39, false)) 21 (some 47) (.fld 3) [oT 6], ⟨(some (39, false)), (.ld none), [oT 47], some 48, 22, true, []⟩, ⟨(some (39, false)), .call, [oF 37, oT 42, oT 44], some 45, 19, false, [22]⟩, yG (some (39, false)) 20 (some 46) (.bin .add 0) [oT 41, oT 45], yG (some (39, false)) 23 (some 49) (.bin .neq 0) [oT 46, oT 48], yS 24 50 .pick [oT 39, oC (.bool true), oT 49], yS 25 51 .mov [oT 50], yG (some (51, false)) 26 (some 52) (.ld (some 3)) [oT 7], yG (some (51, false)) 27 (some 53) (.fld 3) [oT 6], yG (some (51, false)) 28 (some 54) (.ld none) [oT 53], yG (some (51, false)) 29 (some 55) .mov [oT 8], ⟨(some (51, false)), (.ld (some 3)), [oT 7], some 57, 31, true, []⟩, yG (some (51, false)) 32 (some 58) (.fld 4) [oT 6], ⟨(some (51, false)), (.ld none), [oT 58], some 59, 33, true, []⟩, ⟨(some (51, false)), .call, [oF 38, oT 52, oT 54, oT 55], some 56, 30, false, [33, 31]⟩, yG (some (51, false)) 34 (some 60) .call [oF 35, oT 57, oT 59], yG (some (51, false)) 35 (some 61) .call [oF 34, oT 56, oT 60], yG (some (51, false)) 36 (some 62) (.un .not) [oT 61], yS 37 63 .pick [oT 51, oC (.bool true), oT 62]]) (.cond (oT 63) (.seq (.reg [yS 0 4 .mov [oC (.bool false)]]) .ret) .skip)) (.seq (.reg [yS 0 64 (.fld 4) [oT 6], yS 1 65 (.ld none) [oT 64], yS 2 66 .lenS [oT 65], yS 3 67 .call [oF 64, oT 66], yS 4 9 .mov [oT 67]]) (.seq (.seq (.reg [yS 0 10 .mov [oC (nv 0)]]) (.block 0 (.loop [10] 316912649761909445194822976528 (.seq (.seq (.reg [yS 0 68 .mov [oT 10], yS 1 69 .mov [oT 8], yS 2 70 .lenS [oT 69], yS 3 71 (.bin .lss 0) [oT 68, oT 70]]) (.cond (oT 71) .skip (.exit 0))) (.seq (.block 1 (.seq (.reg [yS 0 74 (.ld (some 3)) [oT 7], yS 1 75 (.fld 4) [oT 6], yS 2 76 (.ld none) [oT 75], yS 3 77 .mov [oT 8], yS 4 78 .mov [oT 10], yS 5 79 (.ixS 1) [oT 77, oT 78], yS 6 80 (.ld none) [oT 79], yS 8 82 .mov [oT 9], yS 7 81 .call [oF 42, oT 74, oT 76, oT 80], yS 9 83 .call [oF 40, oT 81, oT 82], yS 10 84 (.un .not) [oT 83], yS 11 85 .mov [oT 84], yG (some (85, false)) 12 (some 86) (.ld (some 3)) [oT 7], yG (some (85, false)) 13 (some 87) (.fld 4) [oT 6], yG (some (85, false)) 14 (some 88) (.ld none) [oT 87], yG (some (85, false)) 15 (some 89) .mov [oT 8], yG (some (85, false)) 16 (some 90) .mov [oT 10], yG (some (85, false)) 17 (some 91) (.ixS 1) [oT 89, oT 90], yG (some (85, false)) 18 (some 92) (.ld none) [oT 91], yG (some (85, false)) 20 (some 94) .mov [oT 9], yG (some (85, false)) 19 (some 93) .call [oF 41, oT 86, oT 88, oT 92], yG (some (85, false)) 21 (some 95) .call [oF 40, oT 93, oT 94], yG (some (85, false)) 22 (some 96) (.un .not) [oT 95], yS 23 97 .pick [oT 85, oC (.bool true), oT 96]]) (.cond (oT 97) (.seq (.reg [yS 0 4 .mov [oC (.bool false)]]) .ret) .skip))) (.reg [yS 0 72 .mov [oT 10], yS 1 73 (.bin .add 0) [oT 72, oC (nv 1)], yS 2 10 .mov [oT 73]])))))) (.seq (.reg [yS 0 98 (.ld (some 3)) [oT 7], yS 1 99 (.fld 3) [oT 6], yS 2 100 (.ld none) [oT 99], yS 3 101 .mov [oT 1], yS 4 102 .call [oF 32, oT 98, oT 100, oT 101], yS 5 11 .mov [oT 102]]) (.seq (.reg [⟨none, (.ld (some 3)), [oT 7], some 103, 0, true, []⟩, yS 1 104 (.fld 3) [oT 6], ⟨none, (.ld none), [oT 104], some 105, 2, true, []⟩, yS 3 106 .mov [oT 8], yS 4 107 (.ld (some 3)) [oT 7], yS 5 108 .mov [oT 8], yS 6 109 .lenS [oT 108], yS 7 110 .mov [oT 1], ⟨none, .call, [oF 32, oT 107, oT 109, oT 110], some 111, 8, false, [2, 0]⟩, yS 9 112 .call [oF 60, oT 103, oT 105, oT 106, oT 111], yS 10 12 .mov [oT 112]]) (.seq (.reg [yS 0 113 .mov [oT 5], yS 1 114 .mov [oT 113], yG (some (114, true)) 2 (some 115) (.ld (some 3)) [oT 7], yG (some (114, true)) 3 (some 116) .mov [oT 8], yG (some (114, true)) 4 (some 117) .mov [oT 11], ⟨(some (114, true)), (.ld (some 3)), [oT 7], some 119, 6, true, []⟩, yG (some (114, true)) 7 (some 120) (.fld 4) [oT 6], ⟨(some (114, true)), (.ld none), [oT 120], some 121, 8, true, []⟩, yG (some (114, true)) 9 (some 122) .mov [oT 11], yG (some (114, true)) 11 (some 124) .mov [oT 9], ⟨(some (114, true)), .call, [oF 46, oT 115, oT 116, oT 117], some 118, 5, false, [8, 6]⟩, yG (some (114, true)) 10 (some 123) .call [oF 42, oT 119, oT 121, oT 122], yG (some (114, true)) 12 (some 125) .call [oF 40, oT 123, oT 124], yG (some (114, true)) 13 (some 126) (.bin .eql 1) [oT 118, oT 125], yS 14 127 .pick [oT 114, oT 126, oC (.bool false)], yS 15 128 .mov [oT 127], yG (some (128, true)) 16 (some 129) (.ld (some 3)) [oT 7], yG (some (128, true)) 17 (some 130) .mov [oT 8], yG (some (128, true)) 18 (some 131) .mov [oT 12], yG (some (128, true)) 19 (some 132) .call [oF 46, oT 129, oT 130, oT 131], yS 20 133 .pick [oT 128, oT 132, oC (.bool false)], yS 21 4 .mov [oT 133]]) .ret))))))))))))
theorem xd9_ok : compF Try.prog 9 = some ⟨134, [(.tmp 4)], xd9.er⟩ := by kernel_rfl
def g9 (x0 y1 : Value) (H : AH) (R : Value → AH → Prop) : Prop :=
 @letH (H ++ [.cells (cellsL x0) 58 none false]) ⟨fun H1 =>
 @cG 29 [] H1 ⟨fun v13 H2 =>
 @bindO (eun .not v13) ⟨fun v15 =>
 @condK v15 ⟨fun q => if q = true then R (.bool false) H2 else
 @bindO (xload (some 4) H2 [(.pointer (some ⟨H.length, 0, none⟩))]) ⟨fun v16 =>
 @cG 30 [v16] H2 ⟨fun v17 H3 =>
 @letH (H3 ++ [.cells [(nv 0), (nv 0), (.slice none 0 0), (nv 0), (.slice none 0 0)] 63 none false]) ⟨fun H4 =>
 @bindP (xact (.st 5) H4 [(.pointer (some ⟨H3.length, 0, none⟩)), v17]) ⟨fun _v H5 =>
 @bindO (xpure (.fld 0) [(.pointer (some ⟨H3.length, 0, none⟩))]) ⟨fun v18 =>
 @bindO (xload (some 3) H5 [v18]) ⟨fun v19 =>
 @letH (H5 ++ [.cells [(nv 0), (nv 0), (.slice none 0 0)] 61 none false]) ⟨fun H6 =>
 @bindP (xact (.st 3) H6 [(.pointer (some ⟨H5.length, 0, none⟩)), v19]) ⟨fun _v H7 =>
 @bindO (xload (some 3) H7 [(.pointer (some ⟨H5.length, 0, none⟩))]) ⟨fun v20 =>
 @bindO (xpure (.fld 3) [(.pointer (some ⟨H3.length, 0, none⟩))]) ⟨fun v21 =>
 @bindO (xload none H7 [v21]) ⟨fun v22 =>
 @bindO (xpure (.fld 4) [(.pointer (some ⟨H3.length, 0, none⟩))]) ⟨fun v23 =>
 @bindO (xload none H7 [v23]) ⟨fun v24 =>
 @cG 38 [v20, v22, v24] H7 ⟨fun v25 H8 =>
 @bindO (xpure (.fld 3) [(.pointer (some ⟨H3.length, 0, none⟩))]) ⟨fun v26 =>
 @bindO (xload none H8 [v26]) ⟨fun v27 =>
 @cG 56 [v27, v25] H8 ⟨fun v29 H9 =>
 @bindO (eun .not v29) ⟨fun v30 =>
 @guardJ (asNB v30) (fun J1 => @bindO (xload (some 3) H9 [(.pointer (some ⟨H5.length, 0, none⟩))]) ⟨fun v32 =>
 J1 v32 H9⟩) H9 ⟨fun v32a H10 =>
 @guardJ (asNB v30) (fun J2 => @bindO (xpure (.fld 3) [(.pointer (some ⟨H3.length, 0, none⟩))]) ⟨fun v33 =>
 J2 v33 H10⟩) H10 ⟨fun v33a H11 =>
 @guardJ (asNB v30) (fun J3 => @bindO (xload none H11 [v33a]) ⟨fun v34 =>
 J3 v34 H11⟩) H11 ⟨fun v34a H12 =>
 @guardJ (asNB v30) (fun J4 => J4 v25 H12) H12 ⟨fun v35 H13 =>
 @guardJ (asNB v30) (fun J5 => @cG 55 [v32a, v34a, v35] H13 ⟨fun v36 H14 =>
 J5 v36 H14⟩) H13 ⟨fun v36a H15 =>
 @guardJ (asNB v30) (fun J6 => @bindO (eun .not v36a) ⟨fun v37 =>
 J6 v37 H15⟩) H15 ⟨fun v37a H16 =>
 @pickK v30 (.bool true) v37a ⟨fun v38 =>
 @guardJ (asNB v38) (fun J7 => J7 v25 H16) H16 ⟨fun v40 H17 =>
 @guardJ (asNB v38) (fun J8 => @bindO (xpure .lenS [v40]) ⟨fun v41 =>
 J8 v41 H17⟩) H17 ⟨fun v41a H18 =>
 @guardJ (asNB v38) (fun J9 => @bindO (xload (some 3) H18 [(.pointer (some ⟨H5.length, 0, none⟩))]) ⟨fun v42 =>
 J9 v42 H18⟩) H18 ⟨fun v42a H19 =>
 @guardJ (asNB v38) (fun J10 => @bindO (xpure (.fld 4) [(.pointer (some ⟨H3.length, 0, none⟩))]) ⟨fun v43 =>
 J10 v43 H19⟩) H19 ⟨fun v43a H20 =>
 @guardJ (asNB v38) (fun J11 => @bindO (xload none H20 [v43a]) ⟨fun v44 =>
 J11 v44 H20⟩) H20 ⟨fun v44a H21 =>
 @guardJ (asNB v38) (fun J12 => @bindO (xpure (.fld 3) [(.pointer (some ⟨H3.length, 0, none⟩))]) ⟨fun v47 =>
 J12 v47 H21⟩) H21 ⟨fun v47a H22 =>
 @guardJ (asNB v38) (fun J13 => @bindO (xload none H22 [v47a]) ⟨fun v48 =>
 J13 v48 H22⟩) H22 ⟨fun v48a H23 => @letD (bif (asNB v38) then ⟨22, none, [v47a], v48a⟩ :: [] else []) ⟨fun D1 =>
 @guardJ (asNB v38) (fun J14 => @cG 37 [v42a, v44a] H23 ⟨fun v45 H24 =>
 (chkX [22] D1 H24 ∧ J14 v45 H24)⟩) H23 ⟨fun v45a H25 =>
 @guardJ (asNB v38) (fun J15 => @bindO (xbin .add 0 v41a v45a) ⟨fun v46 =>
 J15 v46 H25⟩) H25 ⟨fun v46a H26 =>
 @guardJ (asNB v38) (fun J16 => @bindO (xbin .neq 0 v46a v48a) ⟨fun v49 =>
 J16 v49 H26⟩) H26 ⟨fun v49a H27 =>
 @pickK v38 (.bool true) v49a ⟨fun v50 =>
 @guardJ (asNB v50) (fun J17 => @bindO (xload (some 3) H27 [(.pointer (some ⟨H5.length, 0, none⟩))]) ⟨fun v52 =>
 J17 v52 H27⟩) H27 ⟨fun v52a H28 =>
 @guardJ (asNB v50) (fun J18 => @bindO (xpure (.fld 3) [(.pointer (some ⟨H3.length, 0, none⟩))]) ⟨fun v53 =>
 J18 v53 H28⟩) H28 ⟨fun v53a H29 =>
 @guardJ (asNB v50) (fun J19 => @bindO (xload none H29 [v53a]) ⟨fun v54 =>
 J19 v54 H29⟩) H29 ⟨fun v54a H30 =>
 @guardJ (asNB v50) (fun J20 => J20 v25 H30) H30 ⟨fun v55 H31 =>
 @guardJ (asNB v50) (fun J21 => @bindO (xload (some 3) H31 [(.pointer (some ⟨H5.length, 0, none⟩))]) ⟨fun v57 =>
 J21 v57 H31⟩) H31 ⟨fun v57a H32 => @letD (bif (asNB v50) then ⟨31, (some 3), [(.pointer (some ⟨H5.length, 0, none⟩))], v57a⟩ :: D1 else D1) ⟨fun D2 =>
 @guardJ (asNB v50) (fun J22 => @bindO (xpure (.fld 4) [(.pointer (some ⟨H3.length, 0, none⟩))]) ⟨fun v58 =>
 J22 v58 H32⟩) H32 ⟨fun v58a H33 =>
 @guardJ (asNB v50) (fun J23 => @bindO (xload none H33 [v58a]) ⟨fun v59 =>
 J23 v59 H33⟩) H33 ⟨fun v59a H34 => @letD (bif (asNB v50) then ⟨33, none, [v58a], v59a⟩ :: D2 else D2) ⟨fun D3 =>
 @guardJ (asNB v50) (fun J24 => @cG 38 [v52a, v54a, v55] H34 ⟨fun v56 H35 =>
 (chkX [33, 31] D3 H35 ∧ J24 v56 H35)⟩) H34 ⟨fun v56a H36 =>
 @guardJ (asNB v50) (fun J25 => @cG 35 [v57a, v59a] H36 ⟨fun v60 H37 =>
 J25 v60 H37⟩) H36 ⟨fun v60a H38 =>
 @guardJ (asNB v50) (fun J26 => @cG 34 [v56a, v60a] H38 ⟨fun v61 H39 =>
 J26 v61 H39⟩) H38 ⟨fun v61a H40 =>
 @guardJ (asNB v50) (fun J27 => @bindO (eun .not v61a) ⟨fun v62 =>
 J27 v62 H40⟩) H40 ⟨fun v62a H41 =>
 @pickK v50 (.bool true) v62a ⟨fun v63 =>
 @condK v63 ⟨fun q => if q = true then R (.bool false) H41 else
 @bindO (xpure (.fld 4) [(.pointer (some ⟨H3.length, 0, none⟩))]) ⟨fun v64 =>
 @bindO (xload none H41 [v64]) ⟨fun v65 =>
 @bindO (xpure .lenS [v65]) ⟨fun v66 =>
 @cG 64 [v66] H41 ⟨fun v67 H42 =>
 @loopV1 (nv 0) H42 ⟨fun i10 H43 K28 =>
 @bindO (xpure .lenS [v25]) ⟨fun v70 =>
 @bindO (xbin .lss 0 i10 v70) ⟨fun v71 =>
 @condK v71 ⟨fun q => if q = true then @bindO (xload (some 3) H43 [(.pointer (some ⟨H5.length, 0, none⟩))]) ⟨fun v74 =>
 @bindO (xpure (.fld 4) [(.pointer (some ⟨H3.length, 0, none⟩))]) ⟨fun v75 =>
 @bindO (xload none H43 [v75]) ⟨fun v76 =>
 @bindO (xpure (.ixS 1) [v25, i10]) ⟨fun v79 =>
 @bindO (xload none H43 [v79]) ⟨fun v80 =>
 @cG 42 [v74, v76, v80] H43 ⟨fun v81 H44 =>
 @cG 40 [v81, v67] H44 ⟨fun v83 H45 =>
 @bindO (eun .not v83) ⟨fun v84 =>
 @guardJ (asNB v84) (fun J29 => @bindO (xload (some 3) H45 [(.pointer (some ⟨H5.length, 0, none⟩))]) ⟨fun v86 =>
 J29 v86 H45⟩) H45 ⟨fun v86a H46 =>
 @guardJ (asNB v84) (fun J30 => @bindO (xpure (.fld 4) [(.pointer (some ⟨H3.length, 0, none⟩))]) ⟨fun v87 =>
 J30 v87 H46⟩) H46 ⟨fun v87a H47 =>
 @guardJ (asNB v84) (fun J31 => @bindO (xload none H47 [v87a]) ⟨fun v88 =>
 J31 v88 H47⟩) H47 ⟨fun v88a H48 =>
 @guardJ (asNB v84) (fun J32 => J32 v25 H48) H48 ⟨fun v89 H49 =>
 @guardJ (asNB v84) (fun J33 => J33 i10 H49) H49 ⟨fun v90 H50 =>
 @guardJ (asNB v84) (fun J34 => @bindO (xpure (.ixS 1) [v89, v90]) ⟨fun v91 =>
 J34 v91 H50⟩) H50 ⟨fun v91a H51 =>
 @guardJ (asNB v84) (fun J35 => @bindO (xload none H51 [v91a]) ⟨fun v92 =>
 J35 v92 H51⟩) H51 ⟨fun v92a H52 =>
 @guardJ (asNB v84) (fun J36 => J36 v67 H52) H52 ⟨fun v94 H53 =>
 @guardJ (asNB v84) (fun J37 => @cG 41 [v86a, v88a, v92a] H53 ⟨fun v93 H54 =>
 J37 v93 H54⟩) H53 ⟨fun v93a H55 =>
 @guardJ (asNB v84) (fun J38 => @cG 40 [v93a, v94] H55 ⟨fun v95 H56 =>
 J38 v95 H56⟩) H55 ⟨fun v95a H57 =>
 @guardJ (asNB v84) (fun J39 => @bindO (eun .not v95a) ⟨fun v96 =>
 J39 v96 H57⟩) H57 ⟨fun v96a H58 =>
 @pickK v84 (.bool true) v96a ⟨fun v97 =>
 @condK v97 ⟨fun q => if q = true then R (.bool false) H58 else
 @bindO (xbin .add 0 i10 (nv 1)) ⟨fun v73 =>
 K28 v73 H58⟩⟩⟩⟩⟩⟩⟩⟩⟩⟩⟩⟩⟩⟩⟩⟩⟩⟩⟩⟩⟩⟩ else
 @bindO (xload (some 3) H43 [(.pointer (some ⟨H5.length, 0, none⟩))]) ⟨fun v98 =>
 @bindO (xpure (.fld 3) [(.pointer (some ⟨H3.length, 0, none⟩))]) ⟨fun v99 =>
 @bindO (xload none H43 [v99]) ⟨fun v100 =>
 @cG 32 [v98, v100, y1] H43 ⟨fun v102 H59 =>
 @bindO (xload (some 3) H59 [(.pointer (some ⟨H5.length, 0, none⟩))]) ⟨fun v103 =>
 @bindO (xpure (.fld 3) [(.pointer (some ⟨H3.length, 0, none⟩))]) ⟨fun v104 =>
 @bindO (xload none H59 [v104]) ⟨fun v105 =>
 @bindO (xload (some 3) H59 [(.pointer (some ⟨H5.length, 0, none⟩))]) ⟨fun v107 =>
 @bindO (xpure .lenS [v25]) ⟨fun v109 =>
 @cG 32 [v107, v109, y1] H59 ⟨fun v111 H60 =>
 (chkX [2, 0] (⟨2, none, [v104], v105⟩ :: (⟨0, (some 3), [(.pointer (some ⟨H5.length, 0, none⟩))], v103⟩ :: [])) H60 ∧ @cG 60 [v103, v105, v25, v111] H60 ⟨fun v112 H61 =>
 @guardJ (asB v13) (fun J40 => @bindO (xload (some 3) H61 [(.pointer (some ⟨H5.length, 0, none⟩))]) ⟨fun v115 =>
 J40 v115 H61⟩) H61 ⟨fun v115a H62 =>
 @guardJ (asB v13) (fun J41 => J41 v25 H62) H62 ⟨fun v116 H63 =>
 @guardJ (asB v13) (fun J42 => J42 v102 H63) H63 ⟨fun v117 H64 =>
 @guardJ (asB v13) (fun J43 => @bindO (xload (some 3) H64 [(.pointer (some ⟨H5.length, 0, none⟩))]) ⟨fun v119 =>
 J43 v119 H64⟩) H64 ⟨fun v119a H65 => @letD (bif (asB v13) then ⟨6, (some 3), [(.pointer (some ⟨H5.length, 0, none⟩))], v119a⟩ :: [] else []) ⟨fun D4 =>
 @guardJ (asB v13) (fun J44 => @bindO (xpure (.fld 4) [(.pointer (some ⟨H3.length, 0, none⟩))]) ⟨fun v120 =>
 J44 v120 H65⟩) H65 ⟨fun v120a H66 =>
 @guardJ (asB v13) (fun J45 => @bindO (xload none H66 [v120a]) ⟨fun v121 =>
 J45 v121 H66⟩) H66 ⟨fun v121a H67 => @letD (bif (asB v13) then ⟨8, none, [v120a], v121a⟩ :: D4 else D4) ⟨fun D5 =>
 @guardJ (asB v13) (fun J46 => J46 v102 H67) H67 ⟨fun v122 H68 =>
 @guardJ (asB v13) (fun J47 => J47 v67 H68) H68 ⟨fun v124 H69 =>
 @guardJ (asB v13) (fun J48 => @cG 46 [v115a, v116, v117] H69 ⟨fun v118 H70 =>
 (chkX [8, 6] D5 H70 ∧ J48 v118 H70)⟩) H69 ⟨fun v118a H71 =>
 @guardJ (asB v13) (fun J49 => @cG 42 [v119a, v121a, v122] H71 ⟨fun v123 H72 =>
 J49 v123 H72⟩) H71 ⟨fun v123a H73 =>
 @guardJ (asB v13) (fun J50 => @cG 40 [v123a, v124] H73 ⟨fun v125 H74 =>
 J50 v125 H74⟩) H73 ⟨fun v125a H75 =>
 @guardJ (asB v13) (fun J51 => @bindO (xbin .eql 1 v118a v125a) ⟨fun v126 =>
 J51 v126 H75⟩) H75 ⟨fun v126a H76 =>
 @pickK v13 v126a (.bool false) ⟨fun v127 =>
 @guardJ (asB v127) (fun J52 => @bindO (xload (some 3) H76 [(.pointer (some ⟨H5.length, 0, none⟩))]) ⟨fun v129 =>
 J52 v129 H76⟩) H76 ⟨fun v129a H77 =>
 @guardJ (asB v127) (fun J53 => J53 v25 H77) H77 ⟨fun v130 H78 =>
 @guardJ (asB v127) (fun J54 => J54 v112 H78) H78 ⟨fun v131 H79 =>
 @guardJ (asB v127) (fun J55 => @cG 46 [v129a, v130, v131] H79 ⟨fun v132 H80 =>
 J55 v132 H80⟩) H79 ⟨fun v132a H81 =>
 @pickK v127 v132a (.bool false) ⟨fun v133 =>
 R v133 H81⟩⟩⟩⟩⟩⟩⟩⟩⟩⟩⟩⟩⟩⟩⟩⟩⟩⟩⟩⟩⟩)⟩⟩⟩⟩⟩⟩⟩⟩⟩⟩⟩⟩⟩⟩⟩⟩⟩⟩⟩⟩⟩⟩⟩⟩⟩⟩⟩⟩⟩⟩⟩⟩⟩⟩⟩⟩⟩⟩⟩⟩⟩⟩⟩⟩⟩⟩⟩⟩⟩⟩⟩⟩⟩⟩⟩⟩⟩⟩⟩⟩⟩⟩⟩⟩⟩⟩⟩⟩⟩⟩⟩⟩⟩⟩
theorem g9_of {x0 y1 : Value} {H : AH} {R : Value → AH → Prop} (h : g9 x0 y1 H R) : FN Try.prog 9 [x0, y1] H R :=
  FN.of_XD mixed xd9_ok (by kernel_rfl) (Nat.le_of_ble_eq_true rfl) (cast (by kernel_rfl) h)
end Go.Sim

namespace Go.Sim
open Go Go.Proofs
section
variable {α : Type} [Fl α] [DecidableEq α] {cd : α → Nat} {p e b c q : Nat} {blk : AB} {H : AH}
theorem evs_nv (xs : List α) : evs cd xs = (xs.map cd).map nv := by simp [evs, Function.comp_def]
theorem evr_nv (xss : List (List α)) : evr cd xss = (xss.map fun l => l.map cd).map fun l => l.map nv := by simp [evs, Function.comp_def]
theorem map_inj' (F : FOK α cd p e b c q blk) : ∀ {xs ys : List α}, xs.map cd = ys.map cd → xs = ys
  | [], [], _ => rfl
  | [], _ :: _, h => by simp at h
  | _ :: _, [], h => by simp at h
  | x :: xs, y :: ys, h => by
    simp only [List.map_cons, List.cons.injEq] at h
    rw [F.inj _ _ h.1, map_inj' F h.2]
theorem same_e (F : FOK α cd p e b c q blk) {v w : Value} {xs ys : List α} (hv : Row H v (evs cd xs)) (hw : Row H w (evs cd ys)) (hx : xs.length ≤ 1000) : FN Try.prog 40 [v, w] H (fun r H' => r = .bool (decide (xs = ys)) ∧ H' = H) := by
  rw [evs_nv] at hv hw
  refine (same_c hv hw (by rw [List.length_map]; omega)).mono ?_
  rintro r H' ⟨rfl, rfl⟩
  refine ⟨?_, rfl⟩
  congr 1
  rw [decide_eq_decide]
  exact ⟨map_inj' F, fun h => by rw [h]⟩
theorem alike_e {v w : Value} {A B : List (List α)} (hv : RowR H v (evr cd A)) (hw : RowR H w (evr cd B)) (hA : A.length ≤ 1000) (hA2 : ∀ x ∈ A, x.length ≤ 1000) (he : A = B) : FN Try.prog 34 [v, w] H (fun r H' => r = .bool true ∧ H' = H) := by
  subst he
  rw [evr_nv] at hv hw
  refine (alike_c hv hw (by rw [List.length_map]; omega) (fun l hl => by obtain ⟨x, hx, rfl⟩ := List.mem_map.1 hl; rw [List.length_map]; have := hA2 x hx; omega)).mono ?_
  rintro r H' ⟨rfl, rfl⟩
  exact ⟨by simp, rfl⟩
end
section
variable {α : Type} [Fl α] [DecidableEq α]
theorem apply_zero {n : Nat} {rows : List (List α)} {x : List α} (hl : ∀ r ∈ rows, r.length = n) (hx : x.length = n) : (rows.map fun r => ldot r x) = List.replicate rows.length Fl.zero ↔ Nul n (LSpan rows) (toV x) := by
  constructor
  · intro h
    refine Nul.of (fun j hj => toV_out (by omega)) fun i hi => ?_
    have h2 := congrArg (fun l => l.getD i Fl.zero) h
    simp only [List.getD_eq_getElem?_getD, List.getElem?_map, List.getElem?_eq_getElem hi, List.getElem?_replicate, if_pos hi, Option.map_some, Option.getD_some] at h2
    rw [ldot_dot (hl _ (List.getElem_mem hi))] at h2
    rw [rowV_at hi]; exact h2
  · intro h
    refine List.ext_getElem (by simp) fun i h1 h2 => ?_
    have hi : i < rows.length := by simpa using h1
    simp only [List.getElem_map, List.getElem_replicate]
    rw [ldot_dot (hl _ (List.getElem_mem hi))]
    exact h.2 _ (LSpan.mem (List.getElem_mem hi))
end
abbrev rawv (k n m : Nat) (x : Value) : Value := .agg [.int .u8 (k : Int), .int .u8 (n : Int), .int .u8 (m : Int), x].toArray
theorem law9 (hF : FldOK) (hE : ExOK) {H : AH} {x y : Value} {us ws : List Nat} {k n m : Nat} (hk : k < 256) (hn : n < 256) (hm : m < 256) (hus : ∀ u ∈ us, u < 65536) (hx : Row H x (us.map uv)) (hws : ∀ u ∈ ws, u < 65536) (hy : Row H y (ws.map uv)) :
    FN Try.prog 9 [rawv k n m x, y] H (fun r H' => r = .bool true ∧ H' = H) := by
  refine FN.pre0 (g9_of ?_) rfl
  unfold g9
  have hp1 := Pre.new H [.cells [.int .u8 (k : Int), .int .u8 (n : Int), .int .u8 (m : Int), x] 58 none false]
  simp (disch := omega) only [zA, zB, zC, zD, zF, zG, zH, ↓reduceIte]
  refine FZ.use (hE _) ?_
  simp (disch := omega) only [zA, zB, zC, zD, zF, zG, zH, ↓reduceIte]
  refine FZ.mono (made_c hF hk hn hm hus (hx.pre hp1)) ?_
  rintro r H3 ⟨hp3, α, i1, i2, cd, p, e, b, c, q, blk, hb, F, hq, v, n', xss, rfl, hn0, hn8, hl6, hxn, hv⟩
  have hp03 := hp1.trans hp3
  obtain ⟨vs, hvs, hvr⟩ := hv
  have s5 := stB_five (H := H3 ++ [.cells [nv 0, nv 0, .slice none 0 0, nv 0, .slice none 0 0] 63 none false]) (bl := H3.length) (x := nv p) (y := nv e) (z := .slice (some ⟨b, 0, none⟩) e c) (u := nv n') (v := v) (c0 := nv 0) (c1 := nv 0) (c2 := .slice none 0 0) (c3 := nv 0) (c4 := .slice none 0 0) (e := 63) (op := none) rfl rfl rfl rfl hvs.1.one
  rw [set_last] at s5
  have s3 := stB_three (H := H3 ++ [mbx p e b c n' v, .cells [nv 0, nv 0, .slice none 0 0] 61 none false]) (bl := H3.length + 1) (x := nv p) (y := nv e) (z := .slice (some ⟨b, 0, none⟩) e c) (c0 := nv 0) (c1 := nv 0) (c2 := .slice none 0 0) (e := 61) (op := none) rfl rfl rfl
  rw [set_new] at s3
  simp only [List.set_cons_succ, List.set_cons_zero] at s3
  have hpM := Pre.new H3 [mbx p e b c n' v, fbx p e b c]
  have hmM : (H3 ++ [mbx p e b c n' v, fbx p e b c])[H3.length]? = some (mbx p e b c n' v) := by simp
  have hfM : (H3 ++ [mbx p e b c n' v, fbx p e b c])[H3.length + 1]? = some (fbx p e b c) := by simp
  simp (disch := omega) only [zA, zB, zC, zD, zF, zG, zH, ↓reduceIte, s5, s3]
  have hv3 : RowR H3 v (evr cd xss) := ⟨vs, hvs, hvr⟩
  have hlx : xss.length ≤ 6 := hl6
  obtain ⟨k1, k2⟩ := lkernel_red hxn
  have k3 := rank_null hxn
  have kk := kernel_kernel hxn
  have kn := lkernel_length n' xss
  have kw := k1.piv.1
  generalize hK : lkernel n' xss = K at *
  refine FZ.mono (kernel_p F (hpM.get hb) (hv3.pre hpM) hxn (by omega) (by omega) hn0) ?_
  rintro v25 H8 ⟨hp8, hr8⟩
  rw [hK] at hr8
  have hp38 := hpM.trans hp8
  have hm8 := hp8.get hmM
  have hf8 := hp8.get hfM
  have hb8 := hp38.get hb
  have hv8 := hv3.pre hp38
  obtain ⟨ks, hks, hksl, hkr⟩ := hr8.open
  obtain ⟨kl, ki, kd, _⟩ := hks.allV
  simp (disch := omega) only [zA, zB, zC, zD, zF, zG, zH, ↓reduceIte, hm8]
  refine FZ.use (reduced_c F hr8 k1 (by omega) (by omega)) ?_
  simp (disch := omega) only [zA, zB, zC, zD, zF, zG, zH, ↓reduceIte, hm8, hf8]
  refine FZ.use (valid_r_ok F hb8 hr8 kw hn0 (by omega) (by omega)) ?_
  simp (disch := omega) only [zA, zB, zC, zD, zF, zG, zH, ↓reduceIte, hm8, hf8, kl, hksl]
  refine FZ.use (rank_p F hb8 hv8 hxn (by omega) (by omega) hn0) ?_
  have hsum : K.length + (lreduce xss).length = n' := k3
  simp (disch := omega) only [zA, zB, zC, zD, zF, zG, zH, ↓reduceIte, hm8, hf8, hsum]
  refine FZ.mono (kernel_p F hb8 hr8 kw (by omega) (by omega) hn0) ?_
  rintro v56 H35 ⟨hp35, hr35⟩
  rw [kk] at hr35
  have hm35 := hp35.get hm8
  have hf35 := hp35.get hf8
  simp (disch := omega) only [zA, zB, zC, zD, zF, zG, zH, Nat.reduceEqDiff, Nat.reduceLT, Nat.reduceLeDiff, ↓reduceIte, hm35, hf35]
  refine FZ.mono (reduce_p F (hp35.get hb8) (hv8.pre hp35) hxn (by omega) (by omega) hn0) ?_
  rintro v60 H37 ⟨hp37, hr37⟩
  obtain ⟨r1, _, r3⟩ := lreduce_red hxn
  simp (disch := omega) only [zA, zB, zC, zD, zF, zG, zH, ↓reduceIte]
  refine FZ.use (alike_e (hr35.pre hp37) hr37 (by omega) (fun x hx => by rw [r1.piv.1 x hx]; omega) rfl) ?_
  have hp837 := hp35.trans hp37
  have hm37 := hp37.get hm35
  have hf37 := hp37.get hf35
  obtain ⟨vl, _, _, _⟩ := ((hvs.pre hp38).pre hp837).1.allV
  have hvl : vs.length = xss.length := by simpa using hvr.1
  simp (disch := omega) only [zA, zB, zC, zD, zF, zG, zH, ↓reduceIte, hm37, vl, hvl]
  have hp8_37 := hp837
  refine FZ.mono (zero_c (by omega)) ?_
  rintro v67 H42 ⟨hp42, hz42⟩
  rw [zero_evs (α := α) F] at hz42
  have hm42 := hp42.get hm37
  have hf42 := hp42.get hf37
  have hp842 := hp837.trans hp42
  have hv42 := hv8.pre hp842
  have hr42 := hr8.pre hp842
  have hb42 := hp842.get hb8
  refine loopV1.nat K.length (fun i v H' => v = nv i ∧ Pre H42 H') ⟨rfl, Pre.refl _⟩ ?_ ?_
  · rintro i _ H43 hi ⟨rfl, hp43⟩ J hJ
    have hm43 := hp43.get hm42
    have hf43 := hp43.get hf42
    obtain ⟨_, ki43, kd43, _⟩ := ((hks.pre hp842).pre hp43).allV
    have hi' : i < ks.length := by omega
    have d1 := kd43 i hi'
    have rk := ((hkr i hi).pre hp842).pre hp43
    have hKl := row_len kw hi
    have hker : (xss.map fun r => ldot r (K.getD i [])) = List.replicate xss.length Fl.zero := (apply_zero hxn hKl).2 ((k2 _).1 (LSpan.mem (getD_mem hi)))
    obtain ⟨kl43, _, _, _⟩ := ((hks.pre hp842).pre hp43).allV
    simp (disch := omega) only [zA, zB, zC, zD, zF, zG, zH, ↓reduceIte, kl43, hksl, hi, hm43, hf43, ki43, hi', d1]
    refine FZ.mono (apply_c F (hp43.get hb42) (hv42.pre hp43) rk (fun x hx => by rw [hxn x hx, hKl]) (by omega) (by omega)) ?_
    rintro v81 H44 ⟨hp44, ha44⟩
    rw [hker] at ha44
    simp (disch := omega) only [zA, zB, zC, zD, zF, zG, zH, ↓reduceIte]
    refine FZ.use (same_e F ha44.row ((hz42.row.pre hp43).pre hp44) (by simp; omega)) ?_
    have hm44 := hp44.get hm43
    have hf44 := hp44.get hf43
    obtain ⟨_, ki44, kd44, _⟩ := (((hks.pre hp842).pre hp43).pre hp44).allV
    have d2 := kd44 i hi'
    simp (disch := omega) only [zA, zB, zC, zD, zF, zG, zH, ↓reduceIte, hm44, hf44, ki44, hi', d2]
    refine FZ.mono (apply_p F (hp44.get (hp43.get hb42)) ((hv42.pre hp43).pre hp44) (rk.pre hp44) (fun x hx => by rw [hxn x hx, hKl]) (by omega) (by omega)) ?_
    rintro v93 H54 ⟨hp54, ha54⟩
    rw [hker] at ha54
    simp (disch := omega) only [zA, zB, zC, zD, zF, zG, zH, ↓reduceIte]
    refine FZ.use (same_e F ha54.row (((hz42.row.pre hp43).pre hp44).pre hp54) (by simp; omega)) ?_
    simp (disch := omega) only [zA, zB, zC, zD, zF, zG, zH, ↓reduceIte]
    exact hJ _ _ ⟨rfl, (hp43.trans hp44).trans hp54⟩
  · rintro _ H43 ⟨rfl, hp43⟩ J
    have hm43 := hp43.get hm42
    have hf43 := hp43.get hf42
    have hp03M := (hp03.trans hpM).trans hp8
    obtain ⟨kl43, _, _, _⟩ := ((hks.pre hp842).pre hp43).allV
    have hy43 := (((hy.pre hp03M).pre hp842).pre hp43)
    simp (disch := omega) only [zA, zB, zC, zD, zF, zG, zH, ↓reduceIte, kl43, hksl, hm43, hf43]
    refine FZ.mono (list_c F hws (hp43.get hb42) hy43 (n := n') (by omega)) ?_
    rintro v102 H59 ⟨hp59, zs, hzl, hzr⟩
    have hp4359 := hp43.trans hp59
    have hm59 := hp59.get hm43
    have hf59 := hp59.get hf43
    obtain ⟨kl59, _, _, _⟩ := (((hks.pre hp842).pre hp43).pre hp59).allV
    simp (disch := omega) only [zA, zB, zC, zD, zF, zG, zH, ↓reduceIte, kl59, hksl, hm59, hf59]
    refine FZ.mono (list_c F hws (hp59.get (hp43.get hb42)) (hy43.pre hp59) (n := K.length) (by omega)) ?_
    rintro v111 H60 ⟨hp60, cs, hcl, hcr⟩
    have hm60 := hp60.get hm59
    have hf60 := hp60.get hf59
    have hb60 := hp60.get (hp59.get (hp43.get hb42))
    have hr60 := ((hr42.pre hp43).pre hp59).pre hp60
    simp (disch := omega) only [zA, zB, zC, zD, zF, zG, zH, ↓reduceIte, hm60, hf60]
    refine FZ.mono (combine_c F (n := n') hb60 hr60 hcr.row kw (by omega) (by omega) (by omega)) ?_
    rintro v112 H61 ⟨hp61, hw61⟩
    have hm61 := hp61.get hm60
    have hf61 := hp61.get hf60
    have hb61 := hp61.get hb60
    have hr61 := hr60.pre hp61
    have hz61 := ((hzr.row.pre hp60).pre hp61)
    simp (disch := omega) only [zA, zB, zC, zD, zF, zG, zH, ↓reduceIte, hm61, hf61]
    refine FZ.use (has_p F hb61 hr61 hz61 kw hzl (by omega) (by omega) hn0) ?_
    simp (disch := omega) only [zA, zB, zC, zD, zF, zG, zH, ↓reduceIte, hm61, hf61]
    have hv61 := (((hv42.pre hp43).pre hp59).pre hp60).pre hp61
    refine FZ.mono (apply_c F hb61 hv61 hz61 (fun x hx => by rw [hxn x hx, hzl]) (by omega) (by omega)) ?_
    rintro v123 H72 ⟨hp72, ha72⟩
    have hm72 := hp72.get hm61
    have hf72 := hp72.get hf61
    simp (disch := omega) only [zA, zB, zC, zD, zF, zG, zH, ↓reduceIte]
    refine FZ.use (same_e F ha72.row ((((hz42.row.pre hp43).pre hp59).pre hp60).pre hp61 |>.pre hp72) (by simp; omega)) ?_
    have hb1 : (decide ((lreduce (K ++ [zs])).length = (lreduce K).length) == decide ((xss.map fun r => ldot r zs) = List.replicate xss.length Fl.zero)) = true := by
      rw [has_count kw hzl]
      have h1 := lhas_iff kw hzl
      have h2 := (k2 (toV zs)).trans (apply_zero hxn hzl).symm
      by_cases h : lhas K zs = true
      · rw [h, decide_eq_true (h2.1 (h1.1 h))]; rfl
      · have h' : lhas K zs = false := by simpa using h
        rw [h', decide_eq_false (fun h3 => h (h1.2 (h2.2 h3)))]; rfl
    simp (disch := omega) only [zA, zB, zC, zD, zF, zG, zH, ↓reduceIte, hb1, hm72, hf72]
    have hwl : (lcomb n' K cs).length = n' := by rw [lcomb, lcombk_length kw _ (Nat.le_refl _)]
    refine FZ.use (has_p F (hp72.get hb61) (hr61.pre hp72) (hw61.row.pre hp72) kw hwl (by omega) (by omega) hn0) ?_
    rw [has_count kw hwl, (lhas_iff kw hwl).2 (lcomb_span kw)]
    simp (disch := omega) only [zA, zB, zC, zD, zF, zG, zH, ↓reduceIte]
    exact ((((((hp03M.trans hp842).trans hp43).trans hp59).trans hp60).trans hp61).trans hp72)
end Go.Sim
