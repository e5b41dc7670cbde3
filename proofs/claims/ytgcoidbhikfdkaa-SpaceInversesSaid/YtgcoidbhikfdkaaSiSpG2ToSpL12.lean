/- Part of the proof: SpG2, SpL9, SpL12. -/
import Derived.Test.YtgcoidbhikfdkaaSShSToShF
import Derived.Test.YtgcoidbhikfdkaaSShMix
import Derived.KernelRfl
import Derived.Test.YtgcoidbhikfdkaaSSpW3ToSpX10
set_option linter.all false
set_option maxRecDepth 100000
namespace Go.Sim
open Go Go.Proofs
def xd12 : XD := (.seq (.reg [yS 0 6 .mov [oC (.bool false)]]) (.seq (.reg [yS 0 17 .call [oF 29], yS 1 7 .mov [oT 17]]) (.seq (.seq (.reg [yS 0 18 .mov [oT 7], yS 1 19 (.un .not) [oT 18]]) (.cond (oT 19) (.seq (.reg [yS 0 6 .mov [oC (.bool false)]]) .ret) .skip)) (.seq (.reg [yS 0 20 .mov [oT 0], yS 1 21 .call [oF 67, oT 20], yS 2 8 (.new [(nv 0), (nv 0), (.slice none 0 0)] 61) [], yN 3 (.st 3) [oT 8, oT 21]]) (.seq (.reg [yS 0 22 .mov [oT 1], yS 1 23 (.conv .i64) [oT 22], yS 2 24 (.bin .rem 0) [oT 23, oC (nv 6)], yS 3 25 (.bin .add 0) [oC (nv 1), oT 24], yS 4 9 .mov [oT 25]]) (.seq (.reg [yS 0 26 (.ld (some 3)) [oT 8], yS 1 27 .mov [oT 9], yS 2 28 .mov [oT 2], yS 3 29 .call [oF 52, oT 26, oT 27, oT 28], yS 4 10 .mov [oT 29]]) (.seq (.reg [yS 0 30 (.ld (some 3)) [oT 8], yS 1 31 .mov [oT 10], yS 2 32 .call [oF 53, oT 30, oT 31], yS 3 11 (.new [(.slice none 0 0), (nv 0)] 83) [], yN 4 (.st 2) [oT 11, oT 32]]) (.seq (.seq (.reg [yS 0 33 (.fld 1) [oT 11], yS 1 34 (.ld none) [oT 33], yS 2 35 (.bin .neq 0) [oT 34, oC (nv 0)]]) (.cond (oT 35) (.seq (.reg [yS 0 36 .mov [oT 7], yS 1 37 .mov [oT 36], yG (some (37, true)) 2 (some 38) (.fld 1) [oT 11], yG (some (37, true)) 3 (some 39) (.ld none) [oT 38], yG (some (37, true)) 4 (some 40) (.bin .eql 0) [oT 39, oC (nv 4)], yS 5 41 .pick [oT 37, oT 40, oC (.bool false)], yS 6 42 .mov [oT 41], yG (some (42, true)) 7 (some 43) (.fld 0) [oT 11], yG (some (42, true)) 8 (some 44) (.ld none) [oT 43], yG (some (42, true)) 9 (some 45) .lenS [oT 44], yG (some (42, true)) 10 (some 46) (.bin .eql 0) [oT 45, oC (nv 0)], yS 11 47 .pick [oT 42, oT 46, oC (.bool false)], yS 12 48 .mov [oT 47], yG (some (48, true)) 13 (some 49) (.ld (some 3)) [oT 8], yG (some (48, true)) 14 (some 50) .mov [oT 10], yG (some (48, true)) 15 (some 51) .call [oF 37, oT 49, oT 50], yG (some (48, true)) 16 (some 52) .mov [oT 9], yG (some (48, true)) 17 (some 53) (.bin .lss 0) [oT 51, oT 52], yS 18 54 .pick [oT 48, oT 53, oC (.bool false)], yS 19 55 .mov [oT 54], yG (some (55, true)) 20 (some 56) (.ld (some 3)) [oT 8], yG (some (55, true)) 21 (some 57) .mov [oT 9], yG (some (55, true)) 22 (some 58) .mov [oT 10], yG (some (55, true)) 23 (some 59) .call [oF 38, oT 56, oT 57, oT 58], yG (some (55, true)) 24 (some 60) .lenS [oT 59], yG (some (55, true)) 25 (some 61) (.bin .gtr 0) [oT 60, oC (nv 0)], yS 26 62 .pick [oT 55, oT 61, oC (.bool false)], yS 27 6 .mov [oT 62]]) .ret) .skip)) (.seq (.seq (.reg [yS 0 63 (.ld (some 3)) [oT 8], yS 1 64 .mov [oT 10], yS 2 65 .call [oF 37, oT 63, oT 64], yS 3 66 .mov [oT 9], yS 4 67 (.bin .neq 0) [oT 65, oT 66], yS 5 68 .mov [oT 67], yG (some (68, false)) 6 (some 69) (.ld (some 3)) [oT 8], yG (some (68, false)) 7 (some 70) .mov [oT 9], yG (some (68, false)) 8 (some 71) (.fld 0) [oT 11], yG (some (68, false)) 9 (some 72) (.ld none) [oT 71], yG (some (68, false)) 10 (some 73) .call [oF 55, oT 69, oT 70, oT 72], yG (some (68, false)) 11 (some 74) (.un .not) [oT 73], yS 12 75 .pick [oT 68, oC (.bool true), oT 74], yS 13 76 .mov [oT 75], yG (some (76, false)) 14 (some 77) (.fld 0) [oT 11], yG (some (76, false)) 15 (some 78) (.ld none) [oT 77], yG (some (76, false)) 16 (some 79) .lenS [oT 78], yG (some (76, false)) 17 (some 80) .mov [oT 9], yG (some (76, false)) 18 (some 81) (.bin .neq 0) [oT 79, oT 80], yS 19 82 .pick [oT 76, oC (.bool true), oT 81]]) (.cond (oT 82) (.seq (.reg [yS 0 6 .mov [oC (.bool false)]]) .ret) .skip)) (.seq (.reg [yS 0 83 .mov [oT 9], yS 1 84 (.fld 0) [oT 11], yS 2 85 (.ld none) [oT 84], yS 3 86 .call [oF 58, oT 83, oT 85], yS 4 12 .mov [oT 86]]) (.seq (.reg [yS 0 87 .mov [oT 9], yS 1 88 .mov [oT 10], yS 2 89 .call [oF 58, oT 87, oT 88], yS 3 13 .mov [oT 89]]) (.seq (.seq (.reg [yS 0 14 .mov [oC (nv 0)]]) (.block 0 (.loop [14] 5316911981901723452329847966222270528 (.seq (.seq (.reg [yS 0 90 .mov [oT 14], yS 1 91 .mov [oT 9], yS 2 92 (.bin .lss 0) [oT 90, oT 91]]) (.cond (oT 92) .skip (.exit 0))) (.seq (.block 1 (.seq (.reg [yS 0 95 (.ld (some 3)) [oT 8], yS 1 96 .mov [oT 10], yS 2 97 .mov [oT 12], yS 3 98 .mov [oT 14], yS 4 99 (.ixS 1) [oT 97, oT 98], yS 5 100 (.ld none) [oT 99], yS 7 102 .mov [oT 9], yS 8 103 .mov [oT 14], yS 6 101 .call [oF 42, oT 95, oT 96, oT 100], yS 9 104 .call [oF 68, oT 102, oT 103], yS 10 105 .call [oF 40, oT 101, oT 104], yS 11 106 (.un .not) [oT 105], yS 12 107 .mov [oT 106], yG (some (107, false)) 13 (some 108) (.ld (some 3)) [oT 8], yG (some (107, false)) 14 (some 109) (.fld 0) [oT 11], yG (some (107, false)) 15 (some 110) (.ld none) [oT 109], yG (some (107, false)) 16 (some 111) .mov [oT 13], yG (some (107, false)) 17 (some 112) .mov [oT 14], yG (some (107, false)) 18 (some 113) (.ixS 1) [oT 111, oT 112], yG (some (107, false)) 19 (some 114) (.ld none) [oT 113], yG (some (107, false)) 21 (some 116) .mov [oT 9], yG (some (107, false)) 22 (some 117) .mov [oT 14], yG (some (107, false)) 20 (some 115) .call [oF 42, oT 108, oT 110, oT 114], yG (some (107, false)) 23 (some 118) .call [oF 68, oT 116, oT 117], yG (some (107, false)) 24 (some 119) .call [oF 40, oT 115, oT 118], yG (some (107, false)) 25 (some 120) (.un .not) [oT 119], yS 26 121 .pick [oT 107, oC (.bool true), oT 120]]) (.cond (oT 121) (.seq (.reg [yS 0 6 .mov [oC (.bool false)]]) .ret) .skip))) (.reg [yS 0 93 .mov [oT 14], yS 1 94 (.bin .add 0) [oT 93, oC (nv 1)], yS 2 14 .mov [oT 94]])))))) (.seq (.reg [yS 0 122 (.ld (some 3)) [oT 8], yS 1 123 (.fld 0) [oT 11], yS 2 124 (.ld none) [oT 123], yS 3 125 .call [oF 53, oT 122, oT 124], yS 4 15 (.new [(.slice none 0 0), (nv 0)] 83) [], yN 5 (.st 2) [oT 15, oT 125]]) (.seq (.reg [yS 0 126 (.ld (some 3)) [oT 8], yS 1 127 .mov [oT 9], yS 2 128 .mov [oT 2], yS 3 129 .call [oF 32, oT 126, oT 127, oT 128], yS 4 16 .mov [oT 129]]) (.seq (.reg [yS 0 130 .mov [oT 7], yS 1 131 .mov [oT 130], yG (some (131, true)) 2 (some 132) (.fld 1) [oT 15], yG (some (131, true)) 3 (some 133) (.ld none) [oT 132], yG (some (131, true)) 4 (some 134) (.bin .eql 0) [oT 133, oC (nv 0)], yS 5 135 .pick [oT 131, oT 134, oC (.bool false)], yS 6 136 .mov [oT 135], yG (some (136, true)) 7 (some 137) (.fld 0) [oT 15], yG (some (136, true)) 8 (some 138) (.ld none) [oT 137], yG (some (136, true)) 9 (some 139) .mov [oT 10], yG (some (136, true)) 10 (some 140) .call [oF 34, oT 138, oT 139], yS 11 141 .pick [oT 136, oT 140, oC (.bool false)], yS 12 142 .mov [oT 141], ⟨(some (142, true)), (.ld (some 3)), [oT 8], some 143, 13, true, []⟩, yG (some (142, true)) 14 (some 144) (.fld 0) [oT 11], ⟨(some (142, true)), (.ld none), [oT 144], some 145, 15, true, []⟩, yG (some (142, true)) 16 (some 146) (.ld (some 3)) [oT 8], yG (some (142, true)) 17 (some 147) .mov [oT 10], yG (some (142, true)) 18 (some 148) .mov [oT 16], yG (some (142, true)) 21 (some 151) .mov [oT 16], ⟨(some (142, true)), .call, [oF 41, oT 146, oT 147, oT 148], some 149, 19, false, [15, 13]⟩, yG (some (142, true)) 20 (some 150) .call [oF 41, oT 143, oT 145, oT 149], yG (some (142, true)) 22 (some 152) .call [oF 40, oT 150, oT 151], yS 23 153 .pick [oT 142, oT 152, oC (.bool false)], yS 24 6 .mov [oT 153]]) .ret)))))))))))))))
theorem xd12_ok : compF Try.prog 12 = some ⟨154, [(.tmp 6)], xd12.er⟩ := by kernel_rfl
def g12 (q0 n1 y2 : Value) (H : AH) (R : Value → AH → Prop) : Prop :=
 @cG 29 [] H ⟨fun v17 H1 =>
 @bindO (eun .not v17) ⟨fun v19 =>
 @condK v19 ⟨fun q => if q = true then R (.bool false) H1 else
 @cG 67 [q0] H1 ⟨fun v21 H2 =>
 @letH (H2 ++ [.cells [(nv 0), (nv 0), (.slice none 0 0)] 61 none false]) ⟨fun H3 =>
 @bindP (xact (.st 3) H3 [(.pointer (some ⟨H2.length, 0, none⟩)), v21]) ⟨fun _v H4 =>
 @bindO (xpure (.conv .i64) [n1]) ⟨fun v23 =>
 @bindO (xbin .rem 0 v23 (nv 6)) ⟨fun v24 =>
 @bindO (xbin .add 0 (nv 1) v24) ⟨fun v25 =>
 @bindO (xload (some 3) H4 [(.pointer (some ⟨H2.length, 0, none⟩))]) ⟨fun v26 =>
 @cG 52 [v26, v25, y2] H4 ⟨fun v29 H5 =>
 @bindO (xload (some 3) H5 [(.pointer (some ⟨H2.length, 0, none⟩))]) ⟨fun v30 =>
 @cG 53 [v30, v29] H5 ⟨fun v32 H6 =>
 @letH (H6 ++ [.cells [(.slice none 0 0), (nv 0)] 83 none false]) ⟨fun H7 =>
 @bindP (xact (.st 2) H7 [(.pointer (some ⟨H6.length, 0, none⟩)), v32]) ⟨fun _v H8 =>
 @bindO (xpure (.fld 1) [(.pointer (some ⟨H6.length, 0, none⟩))]) ⟨fun v33 =>
 @bindO (xload none H8 [v33]) ⟨fun v34 =>
 @bindO (xbin .neq 0 v34 (nv 0)) ⟨fun v35 =>
 @condK v35 ⟨fun q => if q = true then @guardJ (asB v17) (fun J1 => @bindO (xpure (.fld 1) [(.pointer (some ⟨H6.length, 0, none⟩))]) ⟨fun v38 =>
 J1 v38 H8⟩) H8 ⟨fun v38a H9 =>
 @guardJ (asB v17) (fun J2 => @bindO (xload none H9 [v38a]) ⟨fun v39 =>
 J2 v39 H9⟩) H9 ⟨fun v39a H10 =>
 @guardJ (asB v17) (fun J3 => @bindO (xbin .eql 0 v39a (nv 4)) ⟨fun v40 =>
 J3 v40 H10⟩) H10 ⟨fun v40a H11 =>
 @pickK v17 v40a (.bool false) ⟨fun v41 =>
 @guardJ (asB v41) (fun J4 => @bindO (xpure (.fld 0) [(.pointer (some ⟨H6.length, 0, none⟩))]) ⟨fun v43 =>
 J4 v43 H11⟩) H11 ⟨fun v43a H12 =>
 @guardJ (asB v41) (fun J5 => @bindO (xload none H12 [v43a]) ⟨fun v44 =>
 J5 v44 H12⟩) H12 ⟨fun v44a H13 =>
 @guardJ (asB v41) (fun J6 => @bindO (xpure .lenS [v44a]) ⟨fun v45 =>
 J6 v45 H13⟩) H13 ⟨fun v45a H14 =>
 @guardJ (asB v41) (fun J7 => @bindO (xbin .eql 0 v45a (nv 0)) ⟨fun v46 =>
 J7 v46 H14⟩) H14 ⟨fun v46a H15 =>
 @pickK v41 v46a (.bool false) ⟨fun v47 =>
 @guardJ (asB v47) (fun J8 => @bindO (xload (some 3) H15 [(.pointer (some ⟨H2.length, 0, none⟩))]) ⟨fun v49 =>
 J8 v49 H15⟩) H15 ⟨fun v49a H16 =>
 @guardJ (asB v47) (fun J9 => J9 v29 H16) H16 ⟨fun v50 H17 =>
 @guardJ (asB v47) (fun J10 => @cG 37 [v49a, v50] H17 ⟨fun v51 H18 =>
 J10 v51 H18⟩) H17 ⟨fun v51a H19 =>
 @guardJ (asB v47) (fun J11 => J11 v25 H19) H19 ⟨fun v52 H20 =>
 @guardJ (asB v47) (fun J12 => @bindO (xbin .lss 0 v51a v52) ⟨fun v53 =>
 J12 v53 H20⟩) H20 ⟨fun v53a H21 =>
 @pickK v47 v53a (.bool false) ⟨fun v54 =>
 @guardJ (asB v54) (fun J13 => @bindO (xload (some 3) H21 [(.pointer (some ⟨H2.length, 0, none⟩))]) ⟨fun v56 =>
 J13 v56 H21⟩) H21 ⟨fun v56a H22 =>
 @guardJ (asB v54) (fun J14 => J14 v25 H22) H22 ⟨fun v57 H23 =>
 @guardJ (asB v54) (fun J15 => J15 v29 H23) H23 ⟨fun v58 H24 =>
 @guardJ (asB v54) (fun J16 => @cG 38 [v56a, v57, v58] H24 ⟨fun v59 H25 =>
 J16 v59 H25⟩) H24 ⟨fun v59a H26 =>
 @guardJ (asB v54) (fun J17 => @bindO (xpure .lenS [v59a]) ⟨fun v60 =>
 J17 v60 H26⟩) H26 ⟨fun v60a H27 =>
 @guardJ (asB v54) (fun J18 => @bindO (xbin .gtr 0 v60a (nv 0)) ⟨fun v61 =>
 J18 v61 H27⟩) H27 ⟨fun v61a H28 =>
 @pickK v54 v61a (.bool false) ⟨fun v62 =>
 R v62 H28⟩⟩⟩⟩⟩⟩⟩⟩⟩⟩⟩⟩⟩⟩⟩⟩⟩⟩⟩⟩⟩⟩ else
 @bindO (xload (some 3) H8 [(.pointer (some ⟨H2.length, 0, none⟩))]) ⟨fun v63 =>
 @cG 37 [v63, v29] H8 ⟨fun v65 H29 =>
 @bindO (xbin .neq 0 v65 v25) ⟨fun v67 =>
 @guardJ (asNB v67) (fun J19 => @bindO (xload (some 3) H29 [(.pointer (some ⟨H2.length, 0, none⟩))]) ⟨fun v69 =>
 J19 v69 H29⟩) H29 ⟨fun v69a H30 =>
 @guardJ (asNB v67) (fun J20 => J20 v25 H30) H30 ⟨fun v70 H31 =>
 @guardJ (asNB v67) (fun J21 => @bindO (xpure (.fld 0) [(.pointer (some ⟨H6.length, 0, none⟩))]) ⟨fun v71 =>
 J21 v71 H31⟩) H31 ⟨fun v71a H32 =>
 @guardJ (asNB v67) (fun J22 => @bindO (xload none H32 [v71a]) ⟨fun v72 =>
 J22 v72 H32⟩) H32 ⟨fun v72a H33 =>
 @guardJ (asNB v67) (fun J23 => @cG 55 [v69a, v70, v72a] H33 ⟨fun v73 H34 =>
 J23 v73 H34⟩) H33 ⟨fun v73a H35 =>
 @guardJ (asNB v67) (fun J24 => @bindO (eun .not v73a) ⟨fun v74 =>
 J24 v74 H35⟩) H35 ⟨fun v74a H36 =>
 @pickK v67 (.bool true) v74a ⟨fun v75 =>
 @guardJ (asNB v75) (fun J25 => @bindO (xpure (.fld 0) [(.pointer (some ⟨H6.length, 0, none⟩))]) ⟨fun v77 =>
 J25 v77 H36⟩) H36 ⟨fun v77a H37 =>
 @guardJ (asNB v75) (fun J26 => @bindO (xload none H37 [v77a]) ⟨fun v78 =>
 J26 v78 H37⟩) H37 ⟨fun v78a H38 =>
 @guardJ (asNB v75) (fun J27 => @bindO (xpure .lenS [v78a]) ⟨fun v79 =>
 J27 v79 H38⟩) H38 ⟨fun v79a H39 =>
 @guardJ (asNB v75) (fun J28 => J28 v25 H39) H39 ⟨fun v80 H40 =>
 @guardJ (asNB v75) (fun J29 => @bindO (xbin .neq 0 v79a v80) ⟨fun v81 =>
 J29 v81 H40⟩) H40 ⟨fun v81a H41 =>
 @pickK v75 (.bool true) v81a ⟨fun v82 =>
 @condK v82 ⟨fun q => if q = true then R (.bool false) H41 else
 @bindO (xpure (.fld 0) [(.pointer (some ⟨H6.length, 0, none⟩))]) ⟨fun v84 =>
 @bindO (xload none H41 [v84]) ⟨fun v85 =>
 @cG 58 [v25, v85] H41 ⟨fun v86 H42 =>
 @cG 58 [v25, v29] H42 ⟨fun v89 H43 =>
 @loopV1 (nv 0) H43 ⟨fun j14 H44 K30 =>
 @bindO (xbin .lss 0 j14 v25) ⟨fun v92 =>
 @condK v92 ⟨fun q => if q = true then @bindO (xload (some 3) H44 [(.pointer (some ⟨H2.length, 0, none⟩))]) ⟨fun v95 =>
 @bindO (xpure (.ixS 1) [v86, j14]) ⟨fun v99 =>
 @bindO (xload none H44 [v99]) ⟨fun v100 =>
 @cG 42 [v95, v29, v100] H44 ⟨fun v101 H45 =>
 @cG 68 [v25, j14] H45 ⟨fun v104 H46 =>
 @cG 40 [v101, v104] H46 ⟨fun v105 H47 =>
 @bindO (eun .not v105) ⟨fun v106 =>
 @guardJ (asNB v106) (fun J31 => @bindO (xload (some 3) H47 [(.pointer (some ⟨H2.length, 0, none⟩))]) ⟨fun v108 =>
 J31 v108 H47⟩) H47 ⟨fun v108a H48 =>
 @guardJ (asNB v106) (fun J32 => @bindO (xpure (.fld 0) [(.pointer (some ⟨H6.length, 0, none⟩))]) ⟨fun v109 =>
 J32 v109 H48⟩) H48 ⟨fun v109a H49 =>
 @guardJ (asNB v106) (fun J33 => @bindO (xload none H49 [v109a]) ⟨fun v110 =>
 J33 v110 H49⟩) H49 ⟨fun v110a H50 =>
 @guardJ (asNB v106) (fun J34 => J34 v89 H50) H50 ⟨fun v111 H51 =>
 @guardJ (asNB v106) (fun J35 => J35 j14 H51) H51 ⟨fun v112 H52 =>
 @guardJ (asNB v106) (fun J36 => @bindO (xpure (.ixS 1) [v111, v112]) ⟨fun v113 =>
 J36 v113 H52⟩) H52 ⟨fun v113a H53 =>
 @guardJ (asNB v106) (fun J37 => @bindO (xload none H53 [v113a]) ⟨fun v114 =>
 J37 v114 H53⟩) H53 ⟨fun v114a H54 =>
 @guardJ (asNB v106) (fun J38 => J38 v25 H54) H54 ⟨fun v116 H55 =>
 @guardJ (asNB v106) (fun J39 => J39 j14 H55) H55 ⟨fun v117 H56 =>
 @guardJ (asNB v106) (fun J40 => @cG 42 [v108a, v110a, v114a] H56 ⟨fun v115 H57 =>
 J40 v115 H57⟩) H56 ⟨fun v115a H58 =>
 @guardJ (asNB v106) (fun J41 => @cG 68 [v116, v117] H58 ⟨fun v118 H59 =>
 J41 v118 H59⟩) H58 ⟨fun v118a H60 =>
 @guardJ (asNB v106) (fun J42 => @cG 40 [v115a, v118a] H60 ⟨fun v119 H61 =>
 J42 v119 H61⟩) H60 ⟨fun v119a H62 =>
 @guardJ (asNB v106) (fun J43 => @bindO (eun .not v119a) ⟨fun v120 =>
 J43 v120 H62⟩) H62 ⟨fun v120a H63 =>
 @pickK v106 (.bool true) v120a ⟨fun v121 =>
 @condK v121 ⟨fun q => if q = true then R (.bool false) H63 else
 @bindO (xbin .add 0 j14 (nv 1)) ⟨fun v94 =>
 K30 v94 H63⟩⟩⟩⟩⟩⟩⟩⟩⟩⟩⟩⟩⟩⟩⟩⟩⟩⟩⟩⟩⟩⟩⟩ else
 @bindO (xload (some 3) H44 [(.pointer (some ⟨H2.length, 0, none⟩))]) ⟨fun v122 =>
 @bindO (xpure (.fld 0) [(.pointer (some ⟨H6.length, 0, none⟩))]) ⟨fun v123 =>
 @bindO (xload none H44 [v123]) ⟨fun v124 =>
 @cG 53 [v122, v124] H44 ⟨fun v125 H64 =>
 @letH (H64 ++ [.cells [(.slice none 0 0), (nv 0)] 83 none false]) ⟨fun H65 =>
 @bindP (xact (.st 2) H65 [(.pointer (some ⟨H64.length, 0, none⟩)), v125]) ⟨fun _v H66 =>
 @bindO (xload (some 3) H66 [(.pointer (some ⟨H2.length, 0, none⟩))]) ⟨fun v126 =>
 @cG 32 [v126, v25, y2] H66 ⟨fun v129 H67 =>
 @guardJ (asB v17) (fun J44 => @bindO (xpure (.fld 1) [(.pointer (some ⟨H64.length, 0, none⟩))]) ⟨fun v132 =>
 J44 v132 H67⟩) H67 ⟨fun v132a H68 =>
 @guardJ (asB v17) (fun J45 => @bindO (xload none H68 [v132a]) ⟨fun v133 =>
 J45 v133 H68⟩) H68 ⟨fun v133a H69 =>
 @guardJ (asB v17) (fun J46 => @bindO (xbin .eql 0 v133a (nv 0)) ⟨fun v134 =>
 J46 v134 H69⟩) H69 ⟨fun v134a H70 =>
 @pickK v17 v134a (.bool false) ⟨fun v135 =>
 @guardJ (asB v135) (fun J47 => @bindO (xpure (.fld 0) [(.pointer (some ⟨H64.length, 0, none⟩))]) ⟨fun v137 =>
 J47 v137 H70⟩) H70 ⟨fun v137a H71 =>
 @guardJ (asB v135) (fun J48 => @bindO (xload none H71 [v137a]) ⟨fun v138 =>
 J48 v138 H71⟩) H71 ⟨fun v138a H72 =>
 @guardJ (asB v135) (fun J49 => J49 v29 H72) H72 ⟨fun v139 H73 =>
 @guardJ (asB v135) (fun J50 => @cG 34 [v138a, v139] H73 ⟨fun v140 H74 =>
 J50 v140 H74⟩) H73 ⟨fun v140a H75 =>
 @pickK v135 v140a (.bool false) ⟨fun v141 =>
 @guardJ (asB v141) (fun J51 => @bindO (xload (some 3) H75 [(.pointer (some ⟨H2.length, 0, none⟩))]) ⟨fun v143 =>
 J51 v143 H75⟩) H75 ⟨fun v143a H76 => @letD (bif (asB v141) then ⟨13, (some 3), [(.pointer (some ⟨H2.length, 0, none⟩))], v143a⟩ :: [] else []) ⟨fun D1 =>
 @guardJ (asB v141) (fun J52 => @bindO (xpure (.fld 0) [(.pointer (some ⟨H6.length, 0, none⟩))]) ⟨fun v144 =>
 J52 v144 H76⟩) H76 ⟨fun v144a H77 =>
 @guardJ (asB v141) (fun J53 => @bindO (xload none H77 [v144a]) ⟨fun v145 =>
 J53 v145 H77⟩) H77 ⟨fun v145a H78 => @letD (bif (asB v141) then ⟨15, none, [v144a], v145a⟩ :: D1 else D1) ⟨fun D2 =>
 @guardJ (asB v141) (fun J54 => @bindO (xload (some 3) H78 [(.pointer (some ⟨H2.length, 0, none⟩))]) ⟨fun v146 =>
 J54 v146 H78⟩) H78 ⟨fun v146a H79 =>
 @guardJ (asB v141) (fun J55 => J55 v29 H79) H79 ⟨fun v147 H80 =>
 @guardJ (asB v141) (fun J56 => J56 v129 H80) H80 ⟨fun v148 H81 =>
 @guardJ (asB v141) (fun J57 => J57 v129 H81) H81 ⟨fun v151 H82 =>
 @guardJ (asB v141) (fun J58 => @cG 41 [v146a, v147, v148] H82 ⟨fun v149 H83 =>
 (chkX [15, 13] D2 H83 ∧ J58 v149 H83)⟩) H82 ⟨fun v149a H84 =>
 @guardJ (asB v141) (fun J59 => @cG 41 [v143a, v145a, v149a] H84 ⟨fun v150 H85 =>
 J59 v150 H85⟩) H84 ⟨fun v150a H86 =>
 @guardJ (asB v141) (fun J60 => @cG 40 [v150a, v151] H86 ⟨fun v152 H87 =>
 J60 v152 H87⟩) H86 ⟨fun v152a H88 =>
 @pickK v141 v152a (.bool false) ⟨fun v153 =>
 R v153 H88⟩⟩⟩⟩⟩⟩⟩⟩⟩⟩⟩⟩⟩⟩⟩⟩⟩⟩⟩⟩⟩⟩⟩⟩⟩⟩⟩⟩⟩⟩⟩⟩⟩⟩⟩⟩⟩⟩⟩⟩⟩⟩⟩⟩⟩⟩⟩⟩⟩⟩⟩⟩⟩⟩⟩⟩⟩⟩⟩⟩⟩⟩⟩⟩⟩⟩⟩⟩⟩⟩⟩⟩⟩
theorem g12_of {q0 n1 y2 : Value} {H : AH} {R : Value → AH → Prop} (h : g12 q0 n1 y2 H R) : FN Try.prog 12 [q0, n1, y2] H R :=
  FN.of_XD mixed xd12_ok (by kernel_rfl) (Nat.le_of_ble_eq_true rfl) (cast (by kernel_rfl) h)
end Go.Sim

namespace Go.Sim
open Go Go.Proofs
section
variable {α : Type} [Fl α] [DecidableEq α] {cd : α → Nat} {p e b c q : Nat} {blk : AB} {H : AH}
theorem evs_nv (xs : List α) : evs cd xs = (xs.map cd).map nv := by simp [evs, Function.comp_def]
theorem evr_nv (xss : List (List α)) : evr cd xss = (xss.map fun l => l.map cd).map fun l => l.map nv := by simp [evs, Function.comp_def]
theorem map_inj' (F : FOK α cd p e b c q blk) : ∀ {xs ys : List α}, xs.map cd = ys.map cd → xs = ys
  | [], [], _ => rfl
  | [], _ :: _, h => by simp at h
  | _ :: _, [], h => by simp at h
  | x :: xs, y :: ys, h => by
    simp only [List.map_cons, List.cons.injEq] at h
    rw [F.inj _ _ h.1, map_inj' F h.2]
theorem same_e (F : FOK α cd p e b c q blk) {v w : Value} {xs ys : List α} (hv : Row H v (evs cd xs)) (hw : Row H w (evs cd ys)) (hx : xs.length ≤ 1000) : FN Try.prog 40 [v, w] H (fun r H' => r = .bool (decide (xs = ys)) ∧ H' = H) := by
  rw [evs_nv] at hv hw
  refine (same_c hv hw (by rw [List.length_map]; omega)).mono ?_
  rintro r H' ⟨rfl, rfl⟩
  refine ⟨?_, rfl⟩
  congr 1
  rw [decide_eq_decide]
  exact ⟨map_inj' F, fun h => by rw [h]⟩
theorem alike_e {v w : Value} {A B : List (List α)} (hv : RowR H v (evr cd A)) (hw : RowR H w (evr cd B)) (hA : A.length ≤ 1000) (hA2 : ∀ x ∈ A, x.length ≤ 1000) (he : A = B) : FN Try.prog 34 [v, w] H (fun r H' => r = .bool true ∧ H' = H) := by
  subst he
  rw [evr_nv] at hv hw
  refine (alike_c hv hw (by rw [List.length_map]; omega) (fun l hl => by obtain ⟨x, hx, rfl⟩ := List.mem_map.1 hl; rw [List.length_map]; have := hA2 x hx; omega)).mono ?_
  rintro r H' ⟨rfl, rfl⟩
  exact ⟨by simp, rfl⟩
end
section
variable {α : Type} [Fl α] [DecidableEq α]
end
end Go.Sim

namespace Go.Sim
open Go Go.Proofs
theorem law12 (hF : FldOK) (hE : ExOK) {H : AH} {y : Value} {ws : List Nat} {k n : Nat} (hk : k < 256) (hn : n < 256) (hws : ∀ u ∈ ws, u < 65536) (hy : Row H y (ws.map uv)) :
    FN Try.prog 12 [.int .u8 (k : Int), .int .u8 (n : Int), y] H (fun r H' => r = .bool true ∧ H' = H) := by
  refine FN.pre0 (g12_of ?_) rfl
  unfold g12
  have w1 : IntKind.i64.wrap (n : Int) = (n : Int) := wrap64 (by omega) (by omega)
  simp (disch := omega) only [zA, zB, zC, zD, zF, zG, zH, ↓reduceIte]
  refine FZ.use (hE _) ?_
  simp (disch := omega) only [zA, zB, zC, zD, zF, zG, zH, ↓reduceIte]
  refine FZ.mono (hF _ _ hk) ?_
  rintro r H2 ⟨hp2, α, i1, i2, cd, p, e, b, c, q, blk, hb, F, hq, rfl, _⟩
  have s3 := stB_three (H := H2 ++ [.cells [nv 0, nv 0, .slice none 0 0] 61 none false]) (bl := H2.length) (x := nv p) (y := nv e) (z := .slice (some ⟨b, 0, none⟩) e c) (c0 := nv 0) (c1 := nv 0) (c2 := .slice none 0 0) (e := 61) (op := none) rfl rfl rfl
  rw [set_last] at s3
  have hpM := Pre.new H2 [fbx p e b c]
  have hfM : (H2 ++ [fbx p e b c])[H2.length]? = some (fbx p e b c) := by simp
  have hd6 : n % 6 < 6 := Nat.mod_lt _ (by omega)
  obtain ⟨d, hd⟩ : ∃ d, d = 1 + n % 6 := ⟨_, rfl⟩
  have hd0 : 0 < d := by omega
  have hd6' : d ≤ 6 := by omega
  simp (disch := omega) only [zA, zB, zC, zD, zF, zG, zH, ↓reduceIte, s3, w1]
  rw [← hd]
  refine FZ.mono (square_c F hws (hpM.get hb) ((hy.pre hp2).pre hpM) (n := d) (by omega) hd0) ?_
  rintro v29 H5 ⟨hp5, A, hAl, hAn, hA⟩
  have hA' : ∀ x ∈ A, x.length = A.length := fun x hx => by rw [hAn x hx, hAl]
  have hf5 := hp5.get hfM
  have hp25 := hpM.trans hp5
  have hb5 := hp25.get hb
  simp (disch := omega) only [zA, zB, zC, zD, zF, zG, zH, ↓reduceIte, hf5]
  refine FZ.mono (inverted_c F hb5 hA hA' hAl (by omega) hd0) ?_
  rintro r H6 ⟨hp6, hr⟩
  have hf6 := hp6.get hf5
  have hb6 := hp6.get hb5
  have hA6 := hA.pre hp6
  obtain ⟨r1, _, r3⟩ := lreduce_red hAn
  have hrn := rank_null hAn
  have hp06 := (hp2.trans hp25).trans hp6
  cases hX : linv A with
  | none =>
    rw [hX] at hr
    simp only at hr
    subst hr
    have hne : (lreduce A).length ≠ A.length := fun h => (linv_rank hA').2 h hX
    have hlt : (lreduce A).length < d := by omega
    have s2 := stB_two (H := H6 ++ [.cells [.slice none 0 0, nv 0] 83 none false]) (bl := H6.length) (x := .slice none 0 0) (y := nv 4) (c0 := .slice none 0 0) (c1 := nv 0) (e := 83) (op := none) rfl rfl
    rw [set_last] at s2
    have hpY := Pre.new H6 [.cells [.slice none 0 0, nv 4] 83 none false]
    have hf7 := hpY.get hf6
    simp (disch := omega) only [zA, zB, zC, zD, zF, zG, zH, Nat.reduceEqDiff, Nat.reduceLT, Nat.reduceLeDiff, ↓reduceIte, s2, hf7]
    refine FZ.use (rank_p F (hpY.get hb6) (hA6.pre hpY) hAn (by omega) (by omega) hd0) ?_
    simp (disch := omega) only [zA, zB, zC, zD, zF, zG, zH, ↓reduceIte, hlt, hf7]
    refine FZ.mono (kernel_p F (hpY.get hb6) (hA6.pre hpY) hAn (by omega) (by omega) hd0) ?_
    rintro v59 H25 ⟨hp25', hk25⟩
    obtain ⟨ks, hks, hksl, _⟩ := hk25.open
    obtain ⟨kl, _, _, _⟩ := hks.allV
    have hpos : 0 < (lkernel d A).length := by omega
    simp (disch := omega) only [zA, zB, zC, zD, zF, zG, zH, ↓reduceIte, kl, hksl, hpos]
    exact (hp06.trans hpY).trans hp25'
  | some X =>
    rw [hX] at hr
    simp only at hr
    obtain ⟨s, rfl, hs⟩ := hr
    have hI := linv_some hA' hX
    have hleft := linv_left hA' hX
    obtain ⟨hXX, hback⟩ := linv_back hA' hX
    have hXl : X.length = d := by rw [hI.1, hAl]
    have hXn : ∀ x ∈ X, x.length = d := fun x hx => by rw [hI.2.1 x hx, hAl]
    have hrank : (lreduce A).length = d := by rw [← hAl]; exact (linv_rank hA').1 (by rw [hX]; simp)
    have hone : one s = true := by obtain ⟨_, h, _⟩ := hs; exact h.1.one
    have s2 := stB_two (H := H6 ++ [.cells [.slice none 0 0, nv 0] 83 none false]) (bl := H6.length) (x := s) (y := nv 0) (c0 := .slice none 0 0) (c1 := nv 0) (e := 83) (op := none) hone rfl
    rw [set_last] at s2
    have hpY := Pre.new H6 [.cells [s, nv 0] 83 none false]
    have hY : (H6 ++ [.cells [s, nv 0] 83 none false])[H6.length]? = some (.cells [s, nv 0] 83 none false) := by simp
    have hf7 := hpY.get hf6
    have hb7 := hpY.get hb6
    have hA7 := hA6.pre hpY
    have hs7 := hs.pre hpY
    have hp07 := hp06.trans hpY
    simp (disch := omega) only [zA, zB, zC, zD, zF, zG, zH, ↓reduceIte, s2, hf7]
    generalize H6 ++ [.cells [s, nv 0] 83 none false] = H7 at *
    refine FZ.use (rank_p F hb7 hA7 hAn (by omega) (by omega) hd0) ?_
    rw [hrank]
    obtain ⟨ss, hss, hssl, hssr⟩ := hs7.open
    obtain ⟨sl, _, _, _⟩ := hss.allV
    simp (disch := omega) only [zA, zB, zC, zD, zF, zG, zH, ↓reduceIte, hf7, hY]
    refine FZ.use (valid_r_ok F hb7 hs7 hXn hd0 (by omega) (by omega)) ?_
    simp (disch := omega) only [zA, zB, zC, zD, zF, zG, zH, ↓reduceIte, hY, sl, hssl, hXl]
    refine FZ.mono (turn_c (n := d) hs7 hXn (by omega) (by omega) (Nat.le_refl d)) ?_
    rintro v86 H42 ⟨hp42, hl42⟩
    simp (disch := omega) only [zA, zB, zC, zD, zF, zG, zH, ↓reduceIte]
    refine FZ.mono (turn_c (n := d) (hA7.pre hp42) hAn (by omega) (by omega) (Nat.le_refl d)) ?_
    rintro v89 H43 ⟨hp43, hr43⟩
    have hp743 := hp42.trans hp43
    have hf43 := hp743.get hf7
    have hY43 := hp743.get hY
    have hl43 := hl42.pre hp43
    obtain ⟨ll, hll, hlll, hlr⟩ := hl43.open
    obtain ⟨rr, hrr, hrrl, hrr2⟩ := hr43.open
    obtain ⟨tl1, tw1⟩ := lturn_len d X
    obtain ⟨tl2, tw2⟩ := lturn_len d A
    refine loopV1.nat d (fun i v H' => v = nv i ∧ Pre H43 H') ⟨rfl, Pre.refl _⟩ ?_ ?_
    · rintro j _ H44 hj ⟨rfl, hp44⟩ J hJ
      have hf44 := hp44.get hf43
      have hY44 := hp44.get hY43
      have hb44 := hp44.get (hp743.get hb7)
      have hA44 := (hA7.pre hp743).pre hp44
      have hs44 := (hs7.pre hp743).pre hp44
      obtain ⟨_, li, ld, _⟩ := (hll.pre hp44).allV
      have hj1 : j < ll.length := by omega
      have hj2 : j < rr.length := by omega
      have d1 := ld j hj1
      have rl := (hlr j (by omega)).pre hp44
      have rr1 := (hrr2 j (by omega)).pre hp44
      have hw1 : ((lturn d X).getD j []).length = d := by rw [row_len tw1 (by omega), hXl]
      have hw2 : ((lturn d A).getD j []).length = d := by rw [row_len tw2 (by omega), hAl]
      simp (disch := omega) only [zA, zB, zC, zD, zF, zG, zH, ↓reduceIte, hj, hf44, li, d1, hj1]
      refine FZ.mono (apply_c F hb44 hA44 rl (fun x hx => by rw [hAn x hx, hw1]) (by omega) (by omega)) ?_
      rintro v101 H45 ⟨hp45, ha45⟩
      rw [apply_col hAl hAn hXl (fun i j hi hj => by have := hI.2.2 i j (by omega) (by omega); rw [hAl] at this; exact this) hj] at ha45
      simp (disch := omega) only [zA, zB, zC, zD, zF, zG, zH, ↓reduceIte]
      refine FZ.mono (unit_c F (α := α) (by omega) hj) ?_
      rintro v104 H46 ⟨hp46, hu46⟩
      have hul : (lunit (α := α) d j).length = d := by simp [lunit]
      simp (disch := omega) only [zA, zB, zC, zD, zF, zG, zH, ↓reduceIte]
      refine FZ.use (same_e F (ha45.row.pre hp46) hu46.row (by omega)) ?_
      have hp4446 := hp45.trans hp46
      have hf46 := hp4446.get hf44
      have hY46 := hp4446.get hY44
      obtain ⟨_, ri, rd, _⟩ := ((hrr.pre hp44).pre hp4446).allV
      have d2 := rd j hj2
      simp (disch := omega) only [zA, zB, zC, zD, zF, zG, zH, ↓reduceIte, hf46, hY46, ri, d2, hj2]
      refine FZ.mono (apply_c F (hp4446.get hb44) (hs44.pre hp4446) (rr1.pre hp4446) (fun x hx => by rw [hXn x hx, hw2]) (by omega) (by omega)) ?_
      rintro v115 H57 ⟨hp57, ha57⟩
      rw [apply_col hXl hXn hAl (fun i j hi hj => by have := hleft i j (by omega) (by omega); rw [hAl] at this; exact this) hj] at ha57
      simp (disch := omega) only [zA, zB, zC, zD, zF, zG, zH, ↓reduceIte]
      refine FZ.mono (unit_c F (α := α) (by omega) hj) ?_
      rintro v118 H59 ⟨hp59, hu59⟩
      simp (disch := omega) only [zA, zB, zC, zD, zF, zG, zH, ↓reduceIte]
      refine FZ.use (same_e F (ha57.row.pre hp59) hu59.row (by omega)) ?_
      simp (disch := omega) only [zA, zB, zC, zD, zF, zG, zH, ↓reduceIte]
      exact hJ _ _ ⟨rfl, ((hp44.trans hp4446).trans hp57).trans hp59⟩
    · rintro _ H44 ⟨rfl, hp44⟩ J
      have hf44 := hp44.get hf43
      have hY44 := hp44.get hY43
      have hb44 := hp44.get (hp743.get hb7)
      have hA44 := (hA7.pre hp743).pre hp44
      have hs44 := (hs7.pre hp743).pre hp44
      have hp744 := hp743.trans hp44
      simp (disch := omega) only [zA, zB, zC, zD, zF, zG, zH, ↓reduceIte, hf44, hY44]
      refine FZ.mono (inverted_c F hb44 hs44 hXX hXl (by omega) hd0) ?_
      rintro r H64 ⟨hp64, hr⟩
      rw [hback] at hr
      simp only at hr
      obtain ⟨t, rfl, ht⟩ := hr
      have honet : one t = true := by obtain ⟨_, h, _⟩ := ht; exact h.1.one
      have s2' := stB_two (H := H64 ++ [.cells [.slice none 0 0, nv 0] 83 none false]) (bl := H64.length) (x := t) (y := nv 0) (c0 := .slice none 0 0) (c1 := nv 0) (e := 83) (op := none) honet rfl
      rw [set_last] at s2'
      have hpT := Pre.new H64 [.cells [t, nv 0] 83 none false]
      have hT : (H64 ++ [.cells [t, nv 0] 83 none false])[H64.length]? = some (.cells [t, nv 0] 83 none false) := by simp
      have hp4465 := hp64.trans hpT
      have ht65 := ht.pre hpT
      simp (disch := omega) only [zA, zB, zC, zD, zF, zG, zH, ↓reduceIte, s2']
      generalize H64 ++ [.cells [t, nv 0] 83 none false] = H65 at *
      have hf65 := hp4465.get hf44
      have hY65 := hp4465.get hY44
      have hb65 := hp4465.get hb44
      have hp065 := (hp07.trans hp744).trans hp4465
      simp (disch := omega) only [zA, zB, zC, zD, zF, zG, zH, ↓reduceIte, hf65]
      refine FZ.mono (list_c F hws hb65 (hy.pre hp065) (n := d) (by omega)) ?_
      rintro v129 H67 ⟨hp67, zs, hzl, hzr⟩
      have hf67 := hp67.get hf65
      have hY67 := hp67.get hY65
      have hT67 := hp67.get hT
      have hb67 := hp67.get hb65
      have hA67 := (hA44.pre hp4465).pre hp67
      have hs67 := (hs44.pre hp4465).pre hp67
      simp (disch := omega) only [zA, zB, zC, zD, zF, zG, zH, ↓reduceIte, hT67]
      refine FZ.use (alike_e (ht65.pre hp67) hA67 (by omega) (fun x hx => by rw [hAn x hx]; omega) rfl) ?_
      simp (disch := omega) only [zA, zB, zC, zD, zF, zG, zH, ↓reduceIte, hf67, hY67]
      refine FZ.mono (apply_p F hb67 hA67 hzr.row (fun x hx => by rw [hAn x hx, hzl]) (by omega) (by omega)) ?_
      rintro v149 H83 ⟨hp83, ha83⟩
      have hf83 := hp83.get hf67
      have hY83 := hp83.get hY67
      have hal : (A.map fun x => ldot x zs).length = d := by rw [List.length_map, hAl]
      simp (disch := omega) only [zA, zB, zC, zD, zF, zG, zH, ↓reduceIte, hf83, hY83]
      refine FZ.mono (apply_p F (hp83.get hb67) (hs67.pre hp83) ha83.row (fun x hx => by rw [hXn x hx, hal]) (by omega) (by omega)) ?_
      rintro v150 H85 ⟨hp85, ha85⟩
      rw [apply_back hAl hAn hXl hXn (fun i j hi hj => by have := hleft i j (by omega) (by omega); rw [hAl] at this; exact this) hzl] at ha85
      simp (disch := omega) only [zA, zB, zC, zD, zF, zG, zH, ↓reduceIte]
      refine FZ.use (same_e F ha85.row ((hzr.row.pre hp83).pre hp85) (by omega)) ?_
      simp (disch := omega) only [zA, zB, zC, zD, zF, zG, zH, ↓reduceIte]
      exact ((hp065.trans hp67).trans hp83).trans hp85
end Go.Sim
