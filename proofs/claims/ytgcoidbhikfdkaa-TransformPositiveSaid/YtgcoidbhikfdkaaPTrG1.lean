/- Part of the proof: TrG1. -/
import Derived.Test.YtgcoidbhikfdkaaPShS
import Derived.Test.YtgcoidbhikfdkaaPShMix
import Derived.KernelRfl
set_option linter.all false
set_option maxRecDepth 100000
namespace Go.Sim
open Go Go.Proofs
def g3 (x0 z1 : Value) (H : AH) (R : Value → AH → Prop) : Prop :=
 @letH (H ++ [.cells (cellsL x0) 24 none false]) ⟨fun H1 =>
 @letH (H1 ++ [.cells (cellsL z1) 30 none false]) ⟨fun H2 =>
 @cG 13 [] H2 ⟨fun v9 H3 =>
 @bindO (eun .not v9) ⟨fun v11 =>
 @condK v11 ⟨fun q => if q = true then R (.bool false) H3 else
 @bindO (xpure (.fld 4) [(.pointer (some ⟨H1.length, 0, none⟩))]) ⟨fun v12 =>
 @bindO (xload none H3 [v12]) ⟨fun v13 =>
 @bindO (xpure .lenS [v13]) ⟨fun v14 =>
 @bindO (xbin .gtr 0 v14 (nv 40)) ⟨fun v15 =>
 @guardJ (asNB v15) (fun J1 => @bindO (xpure (.fld 5) [(.pointer (some ⟨H1.length, 0, none⟩))]) ⟨fun v17 =>
 J1 v17 H3⟩) H3 ⟨fun v17a H4 =>
 @guardJ (asNB v15) (fun J2 => @bindO (xload none H4 [v17a]) ⟨fun v18 =>
 J2 v18 H4⟩) H4 ⟨fun v18a H5 =>
 @guardJ (asNB v15) (fun J3 => @bindO (xpure .lenS [v18a]) ⟨fun v19 =>
 J3 v19 H5⟩) H5 ⟨fun v19a H6 =>
 @guardJ (asNB v15) (fun J4 => @bindO (xbin .gtr 0 v19a (nv 70)) ⟨fun v20 =>
 J4 v20 H6⟩) H6 ⟨fun v20a H7 =>
 @pickK v15 (.bool true) v20a ⟨fun v21 =>
 @guardJ (asNB v21) (fun J5 => @bindO (xpure (.fld 6) [(.pointer (some ⟨H1.length, 0, none⟩))]) ⟨fun v23 =>
 J5 v23 H7⟩) H7 ⟨fun v23a H8 =>
 @guardJ (asNB v21) (fun J6 => @bindO (xload none H8 [v23a]) ⟨fun v24 =>
 J6 v24 H8⟩) H8 ⟨fun v24a H9 =>
 @guardJ (asNB v21) (fun J7 => @bindO (xpure .lenS [v24a]) ⟨fun v25 =>
 J7 v25 H9⟩) H9 ⟨fun v25a H10 =>
 @guardJ (asNB v21) (fun J8 => @bindO (xbin .gtr 0 v25a (nv 40)) ⟨fun v26 =>
 J8 v26 H10⟩) H10 ⟨fun v26a H11 =>
 @pickK v21 (.bool true) v26a ⟨fun v27 =>
 @condK v27 ⟨fun q => if q = true then R v9 H11 else
 @bindO (xload (some 3) H11 [(.pointer (some ⟨H.length, 0, none⟩))]) ⟨fun v29 =>
 @bindO (xload (some 3) H11 [(.pointer (some ⟨H.length, 0, none⟩))]) ⟨fun v31 =>
 @letH (H11 ++ [.cells [(nv 0), (nv 0)] 25 none false]) ⟨fun H12 =>
 @cG 14 [v29] H12 ⟨fun v30 H13 =>
 (chkX [2] (⟨2, (some 3), [(.pointer (some ⟨H.length, 0, none⟩))], v31⟩ :: []) H13 ∧ @cG 15 [v31] H13 ⟨fun v32 H14 =>
 @bindP (xact (.st 2) H14 [(.pointer (some ⟨H11.length, 0, none⟩)), v30]) ⟨fun _v H15 =>
 @bindO (xpure (.ixA 2 1) [(.pointer (some ⟨H11.length, 0, none⟩)), (nv 0)]) ⟨fun v33 =>
 @bindO (xload none H15 [v33]) ⟨fun v34 =>
 @bindO (xpure (.ixA 2 1) [(.pointer (some ⟨H11.length, 0, none⟩)), (nv 1)]) ⟨fun v35 =>
 @bindO (xload none H15 [v35]) ⟨fun v36 =>
 @cG 16 [v34, v36, v32] H15 ⟨fun v38 H16 =>
 @letH (H16 ++ [.cells [(.slice none 0 0), (nv 0)] 36 none false]) ⟨fun H17 =>
 @bindP (xact (.st 2) H17 [(.pointer (some ⟨H16.length, 0, none⟩)), v38]) ⟨fun _v H18 =>
 @bindO (xpure (.fld 0) [(.pointer (some ⟨H1.length, 0, none⟩))]) ⟨fun v39 =>
 @bindO (xload none H18 [v39]) ⟨fun v40 =>
 @bindO (xpure (.fld 1) [(.pointer (some ⟨H1.length, 0, none⟩))]) ⟨fun v41 =>
 @bindO (xload none H18 [v41]) ⟨fun v42 =>
 @bindO (xpure (.fld 2) [(.pointer (some ⟨H1.length, 0, none⟩))]) ⟨fun v43 =>
 @bindO (xload (some 2) H18 [v43]) ⟨fun v44 =>
 @bindO (xpure (.fld 0) [(.pointer (some ⟨H1.length, 0, none⟩))]) ⟨fun v46 =>
 @bindO (xload none H18 [v46]) ⟨fun v47 =>
 @bindO (xpure (.fld 1) [(.pointer (some ⟨H1.length, 0, none⟩))]) ⟨fun v48 =>
 @bindO (xload none H18 [v48]) ⟨fun v49 =>
 @bindO (xpure (.fld 2) [(.pointer (some ⟨H1.length, 0, none⟩))]) ⟨fun v50 =>
 @bindO (xload (some 2) H18 [v50]) ⟨fun v51 =>
 @cG 17 [v40, v42, v44] H18 ⟨fun v45 H19 =>
 (chkX [12, 10, 8] (⟨12, (some 2), [v50], v51⟩ :: (⟨10, none, [v48], v49⟩ :: (⟨8, none, [v46], v47⟩ :: []))) H19 ∧ @cG 18 [v47, v49, v51] H19 ⟨fun v52 H20 =>
 @bindO (xbin .neq 5 v45 v52) ⟨fun v53 =>
 @guardJ (asNB v53) (fun J9 => @bindO (xpure (.fld 0) [(.pointer (some ⟨H1.length, 0, none⟩))]) ⟨fun v55 =>
 J9 v55 H20⟩) H20 ⟨fun v55a H21 =>
 @guardJ (asNB v53) (fun J10 => @bindO (xload none H21 [v55a]) ⟨fun v56 =>
 J10 v56 H21⟩) H21 ⟨fun v56a H22 =>
 @guardJ (asNB v53) (fun J11 => @bindO (xpure (.fld 1) [(.pointer (some ⟨H1.length, 0, none⟩))]) ⟨fun v57 =>
 J11 v57 H22⟩) H22 ⟨fun v57a H23 =>
 @guardJ (asNB v53) (fun J12 => @bindO (xload none H23 [v57a]) ⟨fun v58 =>
 J12 v58 H23⟩) H23 ⟨fun v58a H24 =>
 @guardJ (asNB v53) (fun J13 => @bindO (xpure (.fld 4) [(.pointer (some ⟨H1.length, 0, none⟩))]) ⟨fun v59 =>
 J13 v59 H24⟩) H24 ⟨fun v59a H25 =>
 @guardJ (asNB v53) (fun J14 => @bindO (xload none H25 [v59a]) ⟨fun v60 =>
 J14 v60 H25⟩) H25 ⟨fun v60a H26 =>
 @guardJ (asNB v53) (fun J15 => @bindO (xpure (.fld 0) [(.pointer (some ⟨H1.length, 0, none⟩))]) ⟨fun v62 =>
 J15 v62 H26⟩) H26 ⟨fun v62a H27 =>
 @guardJ (asNB v53) (fun J16 => @bindO (xload none H27 [v62a]) ⟨fun v63 =>
 J16 v63 H27⟩) H27 ⟨fun v63a H28 => @letD (bif (asNB v53) then ⟨24, none, [v62a], v63a⟩ :: (⟨12, (some 2), [v50], v51⟩ :: (⟨10, none, [v48], v49⟩ :: (⟨8, none, [v46], v47⟩ :: []))) else (⟨12, (some 2), [v50], v51⟩ :: (⟨10, none, [v48], v49⟩ :: (⟨8, none, [v46], v47⟩ :: [])))) ⟨fun D1 =>
 @guardJ (asNB v53) (fun J17 => @bindO (xpure (.fld 1) [(.pointer (some ⟨H1.length, 0, none⟩))]) ⟨fun v64 =>
 J17 v64 H28⟩) H28 ⟨fun v64a H29 =>
 @guardJ (asNB v53) (fun J18 => @bindO (xload none H29 [v64a]) ⟨fun v65 =>
 J18 v65 H29⟩) H29 ⟨fun v65a H30 => @letD (bif (asNB v53) then ⟨26, none, [v64a], v65a⟩ :: D1 else D1) ⟨fun D2 =>
 @guardJ (asNB v53) (fun J19 => @bindO (xpure (.fld 4) [(.pointer (some ⟨H1.length, 0, none⟩))]) ⟨fun v66 =>
 J19 v66 H30⟩) H30 ⟨fun v66a H31 =>
 @guardJ (asNB v53) (fun J20 => @bindO (xload none H31 [v66a]) ⟨fun v67 =>
 J20 v67 H31⟩) H31 ⟨fun v67a H32 => @letD (bif (asNB v53) then ⟨28, none, [v66a], v67a⟩ :: D2 else D2) ⟨fun D3 =>
 @guardJ (asNB v53) (fun J21 => @cG 20 [v56a, v58a, v60a] H32 ⟨fun v61 H33 =>
 (chkX [28, 26, 24] D3 H33 ∧ J21 v61 H33)⟩) H32 ⟨fun v61a H34 =>
 @guardJ (asNB v53) (fun J22 => @cG 21 [v63a, v65a, v67a] H34 ⟨fun v68 H35 =>
 J22 v68 H35⟩) H34 ⟨fun v68a H36 =>
 @guardJ (asNB v53) (fun J23 => @cG 19 [v61a, v68a] H36 ⟨fun v69 H37 =>
 J23 v69 H37⟩) H36 ⟨fun v69a H38 =>
 @guardJ (asNB v53) (fun J24 => @bindO (eun .not v69a) ⟨fun v70 =>
 J24 v70 H38⟩) H38 ⟨fun v70a H39 =>
 @pickK v53 (.bool true) v70a ⟨fun v71 =>
 @guardJ (asNB v71) (fun J25 => @bindO (xpure (.ixA 2 1) [(.pointer (some ⟨H11.length, 0, none⟩)), (nv 0)]) ⟨fun v73 =>
 J25 v73 H39⟩) H39 ⟨fun v73a H40 =>
 @guardJ (asNB v71) (fun J26 => @bindO (xload none H40 [v73a]) ⟨fun v74 =>
 J26 v74 H40⟩) H40 ⟨fun v74a H41 =>
 @guardJ (asNB v71) (fun J27 => @bindO (xpure (.ixA 2 1) [(.pointer (some ⟨H11.length, 0, none⟩)), (nv 1)]) ⟨fun v75 =>
 J27 v75 H41⟩) H41 ⟨fun v75a H42 =>
 @guardJ (asNB v71) (fun J28 => @bindO (xload none H42 [v75a]) ⟨fun v76 =>
 J28 v76 H42⟩) H42 ⟨fun v76a H43 =>
 @guardJ (asNB v71) (fun J29 => @bindO (xpure (.fld 4) [(.pointer (some ⟨H1.length, 0, none⟩))]) ⟨fun v77 =>
 J29 v77 H43⟩) H43 ⟨fun v77a H44 =>
 @guardJ (asNB v71) (fun J30 => @bindO (xload none H44 [v77a]) ⟨fun v78 =>
 J30 v78 H44⟩) H44 ⟨fun v78a H45 =>
 @guardJ (asNB v71) (fun J31 => @bindO (xpure (.ixA 2 1) [(.pointer (some ⟨H11.length, 0, none⟩)), (nv 0)]) ⟨fun v80 =>
 J31 v80 H45⟩) H45 ⟨fun v80a H46 =>
 @guardJ (asNB v71) (fun J32 => @bindO (xload none H46 [v80a]) ⟨fun v81 =>
 J32 v81 H46⟩) H46 ⟨fun v81a H47 => @letD (bif (asNB v71) then ⟨42, none, [v80a], v81a⟩ :: D3 else D3) ⟨fun D4 =>
 @guardJ (asNB v71) (fun J33 => @bindO (xpure (.ixA 2 1) [(.pointer (some ⟨H11.length, 0, none⟩)), (nv 1)]) ⟨fun v82 =>
 J33 v82 H47⟩) H47 ⟨fun v82a H48 =>
 @guardJ (asNB v71) (fun J34 => @bindO (xload none H48 [v82a]) ⟨fun v83 =>
 J34 v83 H48⟩) H48 ⟨fun v83a H49 => @letD (bif (asNB v71) then ⟨44, none, [v82a], v83a⟩ :: D4 else D4) ⟨fun D5 =>
 @guardJ (asNB v71) (fun J35 => @bindO (xpure (.fld 4) [(.pointer (some ⟨H1.length, 0, none⟩))]) ⟨fun v84 =>
 J35 v84 H49⟩) H49 ⟨fun v84a H50 =>
 @guardJ (asNB v71) (fun J36 => @bindO (xload none H50 [v84a]) ⟨fun v85 =>
 J36 v85 H50⟩) H50 ⟨fun v85a H51 => @letD (bif (asNB v71) then ⟨46, none, [v84a], v85a⟩ :: D5 else D5) ⟨fun D6 =>
 @guardJ (asNB v71) (fun J37 => @cG 20 [v74a, v76a, v78a] H51 ⟨fun v79 H52 =>
 (chkX [46, 44, 42] D6 H52 ∧ J37 v79 H52)⟩) H51 ⟨fun v79a H53 =>
 @guardJ (asNB v71) (fun J38 => @cG 21 [v81a, v83a, v85a] H53 ⟨fun v86 H54 =>
 J38 v86 H54⟩) H53 ⟨fun v86a H55 =>
 @guardJ (asNB v71) (fun J39 => @cG 19 [v79a, v86a] H55 ⟨fun v87 H56 =>
 J39 v87 H56⟩) H55 ⟨fun v87a H57 =>
 @guardJ (asNB v71) (fun J40 => @bindO (eun .not v87a) ⟨fun v88 =>
 J40 v88 H57⟩) H57 ⟨fun v88a H58 =>
 @pickK v71 (.bool true) v88a ⟨fun v89 =>
 @condK v89 ⟨fun q => if q = true then R (.bool false) H58 else
 @bindO (xpure (.ixA 2 1) [(.pointer (some ⟨H11.length, 0, none⟩)), (nv 0)]) ⟨fun v90 =>
 @bindO (xload none H58 [v90]) ⟨fun v91 =>
 @bindO (xpure (.ixA 2 1) [(.pointer (some ⟨H11.length, 0, none⟩)), (nv 1)]) ⟨fun v92 =>
 @bindO (xload none H58 [v92]) ⟨fun v93 =>
 @bindO (xload (some 2) H58 [(.pointer (some ⟨H16.length, 0, none⟩))]) ⟨fun v96 =>
 @cG 23 [v91, v93, v32] H58 ⟨fun v95 H59 =>
 (chkX [6] (⟨6, (some 2), [(.pointer (some ⟨H16.length, 0, none⟩))], v96⟩ :: []) H59 ∧ @cG 22 [v95, v96] H59 ⟨fun v97 H60 =>
 @bindO (eun .not v97) ⟨fun v98 =>
 @guardJ (asNB v98) (fun J41 => @bindO (xpure (.fld 0) [(.pointer (some ⟨H1.length, 0, none⟩))]) ⟨fun v100 =>
 J41 v100 H60⟩) H60 ⟨fun v100a H61 =>
 @guardJ (asNB v98) (fun J42 => @bindO (xload none H61 [v100a]) ⟨fun v101 =>
 J42 v101 H61⟩) H61 ⟨fun v101a H62 =>
 @guardJ (asNB v98) (fun J43 => @bindO (xpure (.fld 1) [(.pointer (some ⟨H1.length, 0, none⟩))]) ⟨fun v102 =>
 J43 v102 H62⟩) H62 ⟨fun v102a H63 =>
 @guardJ (asNB v98) (fun J44 => @bindO (xload none H63 [v102a]) ⟨fun v103 =>
 J44 v103 H63⟩) H63 ⟨fun v103a H64 =>
 @guardJ (asNB v98) (fun J45 => @bindO (xpure (.fld 5) [(.pointer (some ⟨H1.length, 0, none⟩))]) ⟨fun v104 =>
 J45 v104 H64⟩) H64 ⟨fun v104a H65 =>
 @guardJ (asNB v98) (fun J46 => @bindO (xload none H65 [v104a]) ⟨fun v105 =>
 J46 v105 H65⟩) H65 ⟨fun v105a H66 =>
 @guardJ (asNB v98) (fun J47 => @bindO (xpure (.fld 0) [(.pointer (some ⟨H1.length, 0, none⟩))]) ⟨fun v107 =>
 J47 v107 H66⟩) H66 ⟨fun v107a H67 =>
 @guardJ (asNB v98) (fun J48 => @bindO (xload none H67 [v107a]) ⟨fun v108 =>
 J48 v108 H67⟩) H67 ⟨fun v108a H68 => @letD (bif (asNB v98) then ⟨18, none, [v107a], v108a⟩ :: (⟨6, (some 2), [(.pointer (some ⟨H16.length, 0, none⟩))], v96⟩ :: []) else (⟨6, (some 2), [(.pointer (some ⟨H16.length, 0, none⟩))], v96⟩ :: [])) ⟨fun D7 =>
 @guardJ (asNB v98) (fun J49 => @bindO (xpure (.fld 1) [(.pointer (some ⟨H1.length, 0, none⟩))]) ⟨fun v109 =>
 J49 v109 H68⟩) H68 ⟨fun v109a H69 =>
 @guardJ (asNB v98) (fun J50 => @bindO (xload none H69 [v109a]) ⟨fun v110 =>
 J50 v110 H69⟩) H69 ⟨fun v110a H70 => @letD (bif (asNB v98) then ⟨20, none, [v109a], v110a⟩ :: D7 else D7) ⟨fun D8 =>
 @guardJ (asNB v98) (fun J51 => @bindO (xpure (.fld 5) [(.pointer (some ⟨H1.length, 0, none⟩))]) ⟨fun v111 =>
 J51 v111 H70⟩) H70 ⟨fun v111a H71 =>
 @guardJ (asNB v98) (fun J52 => @bindO (xload none H71 [v111a]) ⟨fun v112 =>
 J52 v112 H71⟩) H71 ⟨fun v112a H72 => @letD (bif (asNB v98) then ⟨22, none, [v111a], v112a⟩ :: D8 else D8) ⟨fun D9 =>
 @guardJ (asNB v98) (fun J53 => @cG 23 [v101a, v103a, v105a] H72 ⟨fun v106 H73 =>
 (chkX [22, 20, 18] D9 H73 ∧ J53 v106 H73)⟩) H72 ⟨fun v106a H74 =>
 @guardJ (asNB v98) (fun J54 => @cG 16 [v108a, v110a, v112a] H74 ⟨fun v113 H75 =>
 J54 v113 H75⟩) H74 ⟨fun v113a H76 =>
 @guardJ (asNB v98) (fun J55 => @cG 22 [v106a, v113a] H76 ⟨fun v114 H77 =>
 J55 v114 H77⟩) H76 ⟨fun v114a H78 =>
 @guardJ (asNB v98) (fun J56 => @bindO (eun .not v114a) ⟨fun v115 =>
 J56 v115 H78⟩) H78 ⟨fun v115a H79 =>
 @pickK v98 (.bool true) v115a ⟨fun v116 =>
 @condK v116 ⟨fun q => if q = true then R (.bool false) H79 else
 @bindO (xpure (.ixA 2 1) [(.pointer (some ⟨H11.length, 0, none⟩)), (nv 0)]) ⟨fun v117 =>
 @bindO (xload none H79 [v117]) ⟨fun v118 =>
 @bindO (xpure (.ixA 2 1) [(.pointer (some ⟨H11.length, 0, none⟩)), (nv 1)]) ⟨fun v119 =>
 @bindO (xload none H79 [v119]) ⟨fun v120 =>
 @bindO (xpure (.fld 0) [(.pointer (some ⟨H16.length, 0, none⟩))]) ⟨fun v121 =>
 @bindO (xload none H79 [v121]) ⟨fun v122 =>
 @bindO (xpure (.ixA 2 1) [(.pointer (some ⟨H11.length, 0, none⟩)), (nv 0)]) ⟨fun v124 =>
 @bindO (xload none H79 [v124]) ⟨fun v125 =>
 @bindO (xpure (.ixA 2 1) [(.pointer (some ⟨H11.length, 0, none⟩)), (nv 1)]) ⟨fun v126 =>
 @bindO (xload none H79 [v126]) ⟨fun v127 =>
 @bindO (xpure (.fld 0) [(.pointer (some ⟨H16.length, 0, none⟩))]) ⟨fun v128 =>
 @bindO (xload none H79 [v128]) ⟨fun v129 =>
 @cG 24 [v118, v120, v122] H79 ⟨fun v123 H80 =>
 (chkX [12, 10, 8] (⟨12, none, [v128], v129⟩ :: (⟨10, none, [v126], v127⟩ :: (⟨8, none, [v124], v125⟩ :: []))) H80 ∧ @cG 25 [v125, v127, v129] H80 ⟨fun v130 H81 =>
 @cG 22 [v123, v130] H81 ⟨fun v131 H82 =>
 @guardJ (asB v131) (fun J57 => @bindO (xpure (.fld 0) [(.pointer (some ⟨H1.length, 0, none⟩))]) ⟨fun v133 =>
 J57 v133 H82⟩) H82 ⟨fun v133a H83 =>
 @guardJ (asB v131) (fun J58 => @bindO (xload none H83 [v133a]) ⟨fun v134 =>
 J58 v134 H83⟩) H83 ⟨fun v134a H84 =>
 @guardJ (asB v131) (fun J59 => @bindO (xpure (.fld 1) [(.pointer (some ⟨H1.length, 0, none⟩))]) ⟨fun v135 =>
 J59 v135 H84⟩) H84 ⟨fun v135a H85 =>
 @guardJ (asB v131) (fun J60 => @bindO (xload none H85 [v135a]) ⟨fun v136 =>
 J60 v136 H85⟩) H85 ⟨fun v136a H86 =>
 @guardJ (asB v131) (fun J61 => @bindO (xpure (.fld 6) [(.pointer (some ⟨H1.length, 0, none⟩))]) ⟨fun v137 =>
 J61 v137 H86⟩) H86 ⟨fun v137a H87 =>
 @guardJ (asB v131) (fun J62 => @bindO (xload none H87 [v137a]) ⟨fun v138 =>
 J62 v138 H87⟩) H87 ⟨fun v138a H88 =>
 @guardJ (asB v131) (fun J63 => @bindO (xpure (.fld 0) [(.pointer (some ⟨H1.length, 0, none⟩))]) ⟨fun v140 =>
 J63 v140 H88⟩) H88 ⟨fun v140a H89 =>
 @guardJ (asB v131) (fun J64 => @bindO (xload none H89 [v140a]) ⟨fun v141 =>
 J64 v141 H89⟩) H89 ⟨fun v141a H90 => @letD (bif (asB v131) then ⟨24, none, [v140a], v141a⟩ :: (⟨12, none, [v128], v129⟩ :: (⟨10, none, [v126], v127⟩ :: (⟨8, none, [v124], v125⟩ :: []))) else (⟨12, none, [v128], v129⟩ :: (⟨10, none, [v126], v127⟩ :: (⟨8, none, [v124], v125⟩ :: [])))) ⟨fun D10 =>
 @guardJ (asB v131) (fun J65 => @bindO (xpure (.fld 1) [(.pointer (some ⟨H1.length, 0, none⟩))]) ⟨fun v142 =>
 J65 v142 H90⟩) H90 ⟨fun v142a H91 =>
 @guardJ (asB v131) (fun J66 => @bindO (xload none H91 [v142a]) ⟨fun v143 =>
 J66 v143 H91⟩) H91 ⟨fun v143a H92 => @letD (bif (asB v131) then ⟨26, none, [v142a], v143a⟩ :: D10 else D10) ⟨fun D11 =>
 @guardJ (asB v131) (fun J67 => @bindO (xpure (.fld 6) [(.pointer (some ⟨H1.length, 0, none⟩))]) ⟨fun v144 =>
 J67 v144 H92⟩) H92 ⟨fun v144a H93 =>
 @guardJ (asB v131) (fun J68 => @bindO (xload none H93 [v144a]) ⟨fun v145 =>
 J68 v145 H93⟩) H93 ⟨fun v145a H94 => @letD (bif (asB v131) then ⟨28, none, [v144a], v145a⟩ :: D11 else D11) ⟨fun D12 =>
 @guardJ (asB v131) (fun J69 => @cG 24 [v134a, v136a, v138a] H94 ⟨fun v139 H95 =>
 (chkX [28, 26, 24] D12 H95 ∧ J69 v139 H95)⟩) H94 ⟨fun v139a H96 =>
 @guardJ (asB v131) (fun J70 => @cG 25 [v141a, v143a, v145a] H96 ⟨fun v146 H97 =>
 J70 v146 H97⟩) H96 ⟨fun v146a H98 =>
 @guardJ (asB v131) (fun J71 => @cG 22 [v139a, v146a] H98 ⟨fun v147 H99 =>
 J71 v147 H99⟩) H98 ⟨fun v147a H100 =>
 @pickK v131 v147a (.bool false) ⟨fun v148 =>
 @guardJ (asB v148) (fun J72 => @bindO (xpure (.ixA 2 1) [(.pointer (some ⟨H11.length, 0, none⟩)), (nv 0)]) ⟨fun v150 =>
 J72 v150 H100⟩) H100 ⟨fun v150a H101 =>
 @guardJ (asB v148) (fun J73 => @bindO (xload none H101 [v150a]) ⟨fun v151 =>
 J73 v151 H101⟩) H101 ⟨fun v151a H102 =>
 @guardJ (asB v148) (fun J74 => @bindO (xpure (.ixA 2 1) [(.pointer (some ⟨H11.length, 0, none⟩)), (nv 1)]) ⟨fun v152 =>
 J74 v152 H102⟩) H102 ⟨fun v152a H103 =>
 @guardJ (asB v148) (fun J75 => @bindO (xload none H103 [v152a]) ⟨fun v153 =>
 J75 v153 H103⟩) H103 ⟨fun v153a H104 =>
 @guardJ (asB v148) (fun J76 => @bindO (xpure (.fld 6) [(.pointer (some ⟨H1.length, 0, none⟩))]) ⟨fun v154 =>
 J76 v154 H104⟩) H104 ⟨fun v154a H105 =>
 @guardJ (asB v148) (fun J77 => @bindO (xload none H105 [v154a]) ⟨fun v155 =>
 J77 v155 H105⟩) H105 ⟨fun v155a H106 =>
 @guardJ (asB v148) (fun J78 => @bindO (xpure (.ixA 2 1) [(.pointer (some ⟨H11.length, 0, none⟩)), (nv 0)]) ⟨fun v157 =>
 J78 v157 H106⟩) H106 ⟨fun v157a H107 =>
 @guardJ (asB v148) (fun J79 => @bindO (xload none H107 [v157a]) ⟨fun v158 =>
 J79 v158 H107⟩) H107 ⟨fun v158a H108 => @letD (bif (asB v148) then ⟨41, none, [v157a], v158a⟩ :: D12 else D12) ⟨fun D13 =>
 @guardJ (asB v148) (fun J80 => @bindO (xpure (.ixA 2 1) [(.pointer (some ⟨H11.length, 0, none⟩)), (nv 1)]) ⟨fun v159 =>
 J80 v159 H108⟩) H108 ⟨fun v159a H109 =>
 @guardJ (asB v148) (fun J81 => @bindO (xload none H109 [v159a]) ⟨fun v160 =>
 J81 v160 H109⟩) H109 ⟨fun v160a H110 => @letD (bif (asB v148) then ⟨43, none, [v159a], v160a⟩ :: D13 else D13) ⟨fun D14 =>
 @guardJ (asB v148) (fun J82 => @bindO (xpure (.fld 6) [(.pointer (some ⟨H1.length, 0, none⟩))]) ⟨fun v161 =>
 J82 v161 H110⟩) H110 ⟨fun v161a H111 =>
 @guardJ (asB v148) (fun J83 => @bindO (xload none H111 [v161a]) ⟨fun v162 =>
 J83 v162 H111⟩) H111 ⟨fun v162a H112 => @letD (bif (asB v148) then ⟨45, none, [v161a], v162a⟩ :: D14 else D14) ⟨fun D15 =>
 @guardJ (asB v148) (fun J84 => @cG 24 [v151a, v153a, v155a] H112 ⟨fun v156 H113 =>
 (chkX [45, 43, 41] D15 H113 ∧ J84 v156 H113)⟩) H112 ⟨fun v156a H114 =>
 @guardJ (asB v148) (fun J85 => @cG 25 [v158a, v160a, v162a] H114 ⟨fun v163 H115 =>
 J85 v163 H115⟩) H114 ⟨fun v163a H116 =>
 @guardJ (asB v148) (fun J86 => @cG 22 [v156a, v163a] H116 ⟨fun v164 H117 =>
 J86 v164 H117⟩) H116 ⟨fun v164a H118 =>
 @pickK v148 v164a (.bool false) ⟨fun v165 =>
 @guardJ (asB v165) (fun J87 => J87 v9 H118) H118 ⟨fun v167 H119 =>
 @pickK v165 v167 (.bool false) ⟨fun v168 =>
 R v168 H119⟩⟩⟩⟩⟩⟩⟩⟩⟩⟩⟩⟩⟩⟩⟩⟩⟩⟩⟩⟩⟩⟩⟩⟩⟩⟩⟩⟩⟩⟩⟩⟩⟩⟩⟩⟩⟩⟩⟩⟩⟩⟩)⟩⟩⟩⟩⟩⟩⟩⟩⟩⟩⟩⟩⟩⟩⟩⟩⟩⟩⟩⟩⟩⟩⟩⟩⟩⟩⟩⟩⟩⟩⟩⟩⟩⟩⟩⟩)⟩⟩⟩⟩⟩⟩⟩⟩⟩⟩⟩⟩⟩⟩⟩⟩⟩⟩⟩⟩⟩⟩⟩⟩⟩⟩⟩⟩⟩⟩⟩⟩⟩⟩⟩⟩⟩⟩⟩⟩⟩⟩⟩⟩⟩⟩⟩⟩⟩)⟩⟩⟩⟩⟩⟩⟩⟩⟩⟩⟩⟩⟩⟩⟩⟩⟩⟩⟩⟩⟩⟩)⟩⟩⟩⟩⟩⟩⟩⟩⟩⟩⟩⟩⟩⟩⟩⟩⟩⟩⟩⟩⟩⟩⟩⟩
def g4 (k0 : Value) (H : AH) (R : Value → AH → Prop) : Prop :=
 @letH (H ++ [.cells (cellsL k0) 48 none false]) ⟨fun H1 =>
 @cG 13 [] H1 ⟨fun v16 H2 =>
 @bindO (eun .not v16) ⟨fun v18 =>
 @condK v18 ⟨fun q => if q = true then R (.bool false) H2 else
 @bindO (xpure (.ixA 4 1) [(.pointer (some ⟨H.length, 0, none⟩)), (nv 0)]) ⟨fun v19 =>
 @bindO (xload none H2 [v19]) ⟨fun v20 =>
 @bindO (xbin .rem 0 v20 (.int .u8 4)) ⟨fun v21 =>
 @bindO (xpure (.conv .i64) [v21]) ⟨fun v22 =>
 @bindO (xbin .add 0 (nv 2) v22) ⟨fun v23 =>
 @bindO (xpure (.ixA 4 1) [(.pointer (some ⟨H.length, 0, none⟩)), (nv 1)]) ⟨fun v24 =>
 @bindO (xload none H2 [v24]) ⟨fun v25 =>
 @bindO (xbin .rem 0 v25 (.int .u8 10)) ⟨fun v26 =>
 @bindO (xpure (.conv .i64) [v26]) ⟨fun v27 =>
 @bindO (xpure (.ixA 4 1) [(.pointer (some ⟨H.length, 0, none⟩)), (nv 2)]) ⟨fun v28 =>
 @bindO (xload none H2 [v28]) ⟨fun v29 =>
 @bindO (xpure (.conv .i64) [v29]) ⟨fun v30 =>
 @bindO (xbin .add 0 v27 (nv 1)) ⟨fun v32 =>
 @bindO (xbin .rem 0 v30 v32) ⟨fun v33 =>
 @bindO (xpure (.ixA 4 1) [(.pointer (some ⟨H.length, 0, none⟩)), (nv 3)]) ⟨fun v34 =>
 @bindO (xload none H2 [v34]) ⟨fun v35 =>
 @bindO (xpure (.conv .i64) [v35]) ⟨fun v36 =>
 @bindO (xbin .add 0 v27 (nv 1)) ⟨fun v38 =>
 @bindO (xbin .rem 0 v36 v38) ⟨fun v39 =>
 @loopV2 (nv 1) (nv 0) H2 ⟨fun all9 i10 H3 K1 =>
 @bindO (xbin .lss 0 i10 v27) ⟨fun v42 =>
 @condK v42 ⟨fun q => if q = true then @bindO (xbin .mul 0 all9 v23) ⟨fun v47 =>
 @bindO (xbin .add 0 i10 (nv 1)) ⟨fun v44 =>
 K1 v47 v44 H3⟩⟩ else
 @loopV2 (nv 0) (nv 0) H3 ⟨fun sum8 i11 H4 K2 =>
 @bindO (xbin .leq 0 i11 v27) ⟨fun v50 =>
 @condK v50 ⟨fun q => if q = true then @bindL (xfill [(nv 0), (nv 0)] [(0, 1), (1, 1)] [v33, i11]) ⟨fun v58 =>
 @cG 17 [v23, v27, (.agg v58.toArray)] H4 ⟨fun v59 H5 =>
 @bindO (xpure (.prt none 0) [v59]) ⟨fun v60 =>
 @bindL (xfill [(nv 0), (nv 0)] [(0, 1), (1, 1)] [i11, v39]) ⟨fun v65 =>
 @cG 17 [v23, v27, (.agg v65.toArray)] H5 ⟨fun v66 H6 =>
 @bindO (xpure (.prt none 0) [v66]) ⟨fun v67 =>
 @bindO (xbin .mul 0 v60 v67) ⟨fun v68 =>
 @bindO (xbin .add 0 sum8 v68) ⟨fun v69 =>
 @bindO (xbin .add 0 i11 (nv 1)) ⟨fun v52 =>
 K2 v69 v52 H6⟩⟩⟩⟩⟩⟩⟩⟩⟩ else
 @bindO (xbin .eql 0 v33 v39) ⟨fun v72 =>
 @guardJ (asB v72) (fun J3 => J3 sum8 H4) H4 ⟨fun v74 H7 =>
 @guardJ (asB v72) (fun J4 => J4 all9 H7) H7 ⟨fun v75 H8 =>
 @guardJ (asB v72) (fun J5 => @bindO (xbin .neq 0 v74 v75) ⟨fun v76 =>
 J5 v76 H8⟩) H8 ⟨fun v76a H9 =>
 @pickK v72 v76a (.bool false) ⟨fun v77 =>
 @guardJ (asNB v77) (fun J6 => J6 v33 H9) H9 ⟨fun v79 H10 =>
 @guardJ (asNB v77) (fun J7 => J7 v39 H10) H10 ⟨fun v80 H11 =>
 @guardJ (asNB v77) (fun J8 => @bindO (xbin .neq 0 v79 v80) ⟨fun v81 =>
 J8 v81 H11⟩) H11 ⟨fun v81a H12 =>
 @guardJ (asNB v77) (fun J9 => J9 v81a H12) H12 ⟨fun v82 H13 =>
 @guardJ (asB v82) (fun J10 => J10 sum8 H13) H13 ⟨fun v83 H14 =>
 @guardJ (asB v82) (fun J11 => @bindO (xbin .neq 0 v83 (nv 0)) ⟨fun v84 =>
 J11 v84 H14⟩) H14 ⟨fun v84a H15 =>
 @guardJ (asNB v77) (fun J12 => @pickK v82 v84a (.bool false) ⟨fun v85 =>
 J12 v85 H15⟩) H15 ⟨fun v85a H16 =>
 @pickK v77 (.bool true) v85a ⟨fun v86 =>
 @condK v86 ⟨fun q => if q = true then R (.bool false) H16 else
 @bindL (xfill [(nv 0), (nv 0)] [(0, 1), (1, 1)] [v33, v39]) ⟨fun v91 =>
 @cG 17 [v23, v27, (.agg v91.toArray)] H16 ⟨fun v92 H17 =>
 @bindL (xfill [(nv 0), (nv 0)] [(0, 1), (1, 1)] [v39, v33]) ⟨fun v97 =>
 @cG 17 [v23, v27, (.agg v97.toArray)] H17 ⟨fun v98 H18 =>
 @letH (H18 ++ [.cells [(nv 0), (nv 0)] 39 none false]) ⟨fun H19 =>
 @letH (H19 ++ [.cells [(nv 0), (nv 0)] 39 none false]) ⟨fun H20 =>
 @bindP (xact (.st 2) H20 [(.pointer (some ⟨H18.length, 0, none⟩)), v92]) ⟨fun _v H21 =>
 @bindP (xact (.st 2) H21 [(.pointer (some ⟨H19.length, 0, none⟩)), v98]) ⟨fun _v H22 =>
 @bindL (xfill [(nv 0), (nv 0)] [(0, 1), (1, 1)] [v39, (nv 0)]) ⟨fun v102 =>
 @cG 17 [v23, v27, (.agg v102.toArray)] H22 ⟨fun v103 H23 =>
 @bindL (xfill [(nv 0), (nv 0)] [(0, 1), (1, 1)] [v33, (nv 0)]) ⟨fun v107 =>
 @cG 17 [v23, v27, (.agg v107.toArray)] H23 ⟨fun v108 H24 =>
 @letH (H24 ++ [.cells [(nv 0), (nv 0)] 39 none false]) ⟨fun H25 =>
 @letH (H25 ++ [.cells [(nv 0), (nv 0)] 39 none false]) ⟨fun H26 =>
 @bindP (xact (.st 2) H26 [(.pointer (some ⟨H24.length, 0, none⟩)), v103]) ⟨fun _v H27 =>
 @bindP (xact (.st 2) H27 [(.pointer (some ⟨H25.length, 0, none⟩)), v108]) ⟨fun _v H28 =>
 @bindO (xpure (.fld 1) [(.pointer (some ⟨H18.length, 0, none⟩))]) ⟨fun v109 =>
 @bindO (xload none H28 [v109]) ⟨fun v110 =>
 @bindO (xbin .eql 0 v110 (nv 0)) ⟨fun v111 =>
 @guardJ (asB v111) (fun J13 => @bindO (xpure (.fld 1) [(.pointer (some ⟨H19.length, 0, none⟩))]) ⟨fun v113 =>
 J13 v113 H28⟩) H28 ⟨fun v113a H29 =>
 @guardJ (asB v111) (fun J14 => @bindO (xload none H29 [v113a]) ⟨fun v114 =>
 J14 v114 H29⟩) H29 ⟨fun v114a H30 =>
 @guardJ (asB v111) (fun J15 => @bindO (xbin .eql 0 v114a (nv 0)) ⟨fun v115 =>
 J15 v115 H30⟩) H30 ⟨fun v115a H31 =>
 @pickK v111 v115a (.bool false) ⟨fun v116 =>
 @guardJ (asB v116) (fun J16 => @bindO (xpure (.fld 0) [(.pointer (some ⟨H24.length, 0, none⟩))]) ⟨fun v118 =>
 J16 v118 H31⟩) H31 ⟨fun v118a H32 =>
 @guardJ (asB v116) (fun J17 => @bindO (xload none H32 [v118a]) ⟨fun v119 =>
 J17 v119 H32⟩) H32 ⟨fun v119a H33 =>
 @guardJ (asB v116) (fun J18 => @bindO (xpure (.fld 0) [(.pointer (some ⟨H18.length, 0, none⟩))]) ⟨fun v120 =>
 J18 v120 H33⟩) H33 ⟨fun v120a H34 =>
 @guardJ (asB v116) (fun J19 => @bindO (xload none H34 [v120a]) ⟨fun v121 =>
 J19 v121 H34⟩) H34 ⟨fun v121a H35 =>
 @guardJ (asB v116) (fun J20 => @bindO (xbin .mul 0 v119a v121a) ⟨fun v122 =>
 J20 v122 H35⟩) H35 ⟨fun v122a H36 =>
 @guardJ (asB v116) (fun J21 => @bindO (xpure (.fld 0) [(.pointer (some ⟨H25.length, 0, none⟩))]) ⟨fun v123 =>
 J21 v123 H36⟩) H36 ⟨fun v123a H37 =>
 @guardJ (asB v116) (fun J22 => @bindO (xload none H37 [v123a]) ⟨fun v124 =>
 J22 v124 H37⟩) H37 ⟨fun v124a H38 =>
 @guardJ (asB v116) (fun J23 => @bindO (xpure (.fld 0) [(.pointer (some ⟨H19.length, 0, none⟩))]) ⟨fun v125 =>
 J23 v125 H38⟩) H38 ⟨fun v125a H39 =>
 @guardJ (asB v116) (fun J24 => @bindO (xload none H39 [v125a]) ⟨fun v126 =>
 J24 v126 H39⟩) H39 ⟨fun v126a H40 =>
 @guardJ (asB v116) (fun J25 => @bindO (xbin .mul 0 v124a v126a) ⟨fun v127 =>
 J25 v127 H40⟩) H40 ⟨fun v127a H41 =>
 @guardJ (asB v116) (fun J26 => @bindO (xbin .eql 0 v122a v127a) ⟨fun v128 =>
 J26 v128 H41⟩) H41 ⟨fun v128a H42 =>
 @pickK v116 v128a (.bool false) ⟨fun v129 =>
 @guardJ (asB v129) (fun J27 => J27 v16 H42) H42 ⟨fun v131 H43 =>
 @pickK v129 v131 (.bool false) ⟨fun v132 =>
 R v132 H43⟩⟩⟩⟩⟩⟩⟩⟩⟩⟩⟩⟩⟩⟩⟩⟩⟩⟩⟩⟩⟩⟩⟩⟩⟩⟩⟩⟩⟩⟩⟩⟩⟩⟩⟩⟩⟩⟩⟩⟩⟩⟩⟩⟩⟩⟩⟩⟩⟩⟩⟩⟩⟩⟩⟩⟩⟩⟩⟩⟩⟩⟩⟩⟩⟩⟩⟩⟩⟩⟩⟩⟩⟩⟩⟩⟩⟩⟩⟩⟩
def xd5 : XD := (.seq (.reg [yS 0 1 (.box 24) [oT 0], yS 1 2 .mov [oC (.bool false)]]) (.seq (.reg [yS 0 12 .call [oF 13], yS 1 3 .mov [oT 12]]) (.seq (.seq (.reg [yS 0 13 .mov [oT 3], yS 1 14 (.un .not) [oT 13]]) (.cond (oT 14) (.seq (.reg [yS 0 2 .mov [oC (.bool false)]]) .ret) .skip)) (.seq (.reg [yS 0 15 (.ld (some 3)) [oT 1], ⟨none, (.ld (some 3)), [oT 1], some 17, 2, true, []⟩, yS 4 4 (.new [(nv 0), (nv 0)] 25) [], ⟨none, .call, [oF 14, oT 15], some 16, 1, false, [2]⟩, yS 3 18 .call [oF 15, oT 17], yN 5 (.st 2) [oT 4, oT 16], yS 6 5 .mov [oT 18]]) (.seq (.reg [yS 0 19 (.ixA 2 1) [oT 4, oC (nv 0)], yS 1 20 (.ld none) [oT 19], yS 2 21 (.ixA 2 1) [oT 4, oC (nv 1)], yS 3 22 (.ld none) [oT 21], yS 4 23 .mov [oT 5], yS 5 24 .call [oF 23, oT 20, oT 22, oT 23], yS 6 6 (.new [(.slice none 0 0), (nv 0)] 36) [], yN 7 (.st 2) [oT 6, oT 24]]) (.seq (.reg [yS 0 25 (.ixA 2 1) [oT 4, oC (nv 0)], yS 1 26 (.ld none) [oT 25], yS 2 27 (.ixA 2 1) [oT 4, oC (nv 1)], yS 3 28 (.ld none) [oT 27], yS 4 29 (.fld 0) [oT 6], yS 5 30 (.ld none) [oT 29], yS 6 31 .call [oF 24, oT 26, oT 28, oT 30], yS 7 7 (.new [(.slice none 0 0), (nv 0)] 36) [], yN 8 (.st 2) [oT 7, oT 31]]) (.seq (.seq (.reg [yS 0 32 (.fld 1) [oT 6], yS 1 33 (.ld none) [oT 32], yS 2 34 (.bin .neq 0) [oT 33, oC (nv 0)], yS 3 35 .mov [oT 34], yG (some (35, false)) 4 (some 36) (.fld 1) [oT 7], yG (some (35, false)) 5 (some 37) (.ld none) [oT 36], yG (some (35, false)) 6 (some 38) (.bin .neq 0) [oT 37, oC (nv 0)], yS 7 39 .pick [oT 35, oC (.bool true), oT 38], yS 8 40 .mov [oT 39], yG (some (40, false)) 9 (some 41) (.fld 0) [oT 7], yG (some (40, false)) 10 (some 42) (.ld none) [oT 41], yG (some (40, false)) 11 (some 43) .lenS [oT 42], yG (some (40, false)) 12 (some 44) (.ixA 2 1) [oT 4, oC (nv 1)], yG (some (40, false)) 13 (some 45) (.ld none) [oT 44], yG (some (40, false)) 14 (some 46) (.bin .add 0) [oT 45, oC (nv 1)], yG (some (40, false)) 15 (some 47) (.bin .neq 0) [oT 43, oT 46], yS 16 48 .pick [oT 40, oC (.bool true), oT 47], yS 17 49 .mov [oT 48], yG (some (49, false)) 18 (some 50) (.fld 0) [oT 7], ⟨(some (49, false)), (.ld none), [oT 50], some 51, 19, true, []⟩, yG (some (49, false)) 20 (some 52) (.ixS 2) [oT 51, oC (nv 0)], ⟨(some (49, false)), (.ld (some 2)), [oT 52], some 53, 21, true, []⟩, ⟨(some (49, false)), .call, [oF 26, oC (nv 1)], some 54, 22, false, [21, 19]⟩, yG (some (49, false)) 23 (some 55) (.bin .neq 5) [oT 53, oT 54], yS 24 56 .pick [oT 49, oC (.bool true), oT 55]]) (.cond (oT 56) (.seq (.reg [yS 0 2 .mov [oC (.bool false)]]) .ret) .skip)) (.seq (.reg [yS 0 57 .mov [oT 5], yS 1 58 .lenS [oT 57], yS 2 8 .mov [oT 58]]) (.seq (.reg [yS 0 59 (.ixA 2 1) [oT 4, oC (nv 0)], yS 1 60 (.ld none) [oT 59], yS 2 61 (.ixA 2 1) [oT 4, oC (nv 1)], yS 3 62 (.ld none) [oT 61], yS 4 63 .call [oF 27, oT 60, oT 62], yS 5 9 .mov [oT 63]]) (.seq (.reg [yS 0 10 .mov [oC (nv 0)]]) (.seq (.seq (.reg [yS 0 11 .mov [oC (nv 0)]]) (.block 0 (.loop [10, 11] 664613997892457918005159456430623748 (.seq (.seq (.reg [yS 0 64 .mov [oT 11], yS 1 65 (.fld 0) [oT 7], yS 2 66 (.ld none) [oT 65], yS 3 67 .lenS [oT 66], yS 4 68 (.bin .lss 0) [oT 64, oT 67]]) (.cond (oT 68) .skip (.exit 0))) (.seq (.block 1 (.seq (.seq (.reg [yS 0 71 (.fld 0) [oT 7], yS 1 72 (.ld none) [oT 71], yS 2 73 .mov [oT 11], yS 3 74 (.ixS 2) [oT 72, oT 73], yS 4 75 (.fld 0) [oT 74], yS 5 76 (.ld none) [oT 75], yS 6 77 (.bin .lss 0) [oT 76, oC (nv 0)], yS 7 78 .mov [oT 77], yG (some (78, false)) 8 (some 79) (.fld 0) [oT 7], yG (some (78, false)) 9 (some 80) (.ld none) [oT 79], yG (some (78, false)) 10 (some 81) .mov [oT 11], yG (some (78, false)) 11 (some 82) (.ixS 2) [oT 80, oT 81], yG (some (78, false)) 12 (some 83) (.fld 1) [oT 82], yG (some (78, false)) 13 (some 84) (.ld none) [oT 83], yG (some (78, false)) 14 (some 85) (.bin .lss 0) [oT 84, oC (nv 1)], yS 15 86 .pick [oT 78, oC (.bool true), oT 85], yS 16 87 .mov [oT 86], yG (some (87, false)) 17 (some 88) .mov [oT 8], yG (some (87, false)) 18 (some 89) .mov [oT 8], yG (some (87, false)) 19 (some 90) (.bin .mul 0) [oT 88, oT 89], yG (some (87, false)) 20 (some 91) (.fld 0) [oT 7], yG (some (87, false)) 21 (some 92) (.ld none) [oT 91], yG (some (87, false)) 22 (some 93) .mov [oT 11], yG (some (87, false)) 23 (some 94) (.ixS 2) [oT 92, oT 93], yG (some (87, false)) 24 (some 95) (.fld 1) [oT 94], yG (some (87, false)) 25 (some 96) (.ld none) [oT 95], yG (some (87, false)) 26 (some 97) (.bin .rem 0) [oT 90, oT 96], yG (some (87, false)) 27 (some 98) (.bin .neq 0) [oT 97, oC (nv 0)], yS 28 99 .pick [oT 87, oC (.bool true), oT 98]]) (.cond (oT 99) (.seq (.reg [yS 0 2 .mov [oC (.bool false)]]) .ret) .skip)) (.reg [yS 0 100 .mov [oT 10], yS 1 101 (.fld 0) [oT 7], yS 2 102 (.ld none) [oT 101], yS 3 103 .mov [oT 11], yS 4 104 (.ixS 2) [oT 102, oT 103], yS 5 105 (.fld 0) [oT 104], yS 6 106 (.ld none) [oT 105], yS 7 107 .mov [oT 8], yS 8 108 .mov [oT 8], yS 9 109 (.bin .mul 0) [oT 107, oT 108], yS 10 110 (.fld 0) [oT 7], yS 11 111 (.ld none) [oT 110], yS 12 112 .mov [oT 11], yS 13 113 (.ixS 2) [oT 111, oT 112], yS 14 114 (.fld 1) [oT 113], yS 15 115 (.ld none) [oT 114], yS 16 116 (.bin .quo 0) [oT 109, oT 115], yS 17 117 (.bin .mul 0) [oT 106, oT 116], yS 18 118 (.bin .add 0) [oT 100, oT 117], yS 19 10 .mov [oT 118]]))) (.reg [yS 0 69 .mov [oT 11], yS 1 70 (.bin .add 0) [oT 69, oC (nv 1)], yS 2 11 .mov [oT 70]])))))) (.seq (.seq (.reg [yS 0 119 (.fld 0) [oT 6], yS 1 120 (.ld none) [oT 119], yS 2 121 .lenS [oT 120], yS 3 122 (.bin .eql 0) [oT 121, oC (nv 0)], yS 4 123 .mov [oT 122], yG (some (123, false)) 5 (some 124) (.fld 0) [oT 6], yG (some (123, false)) 6 (some 125) (.ld none) [oT 124], yG (some (123, false)) 7 (some 126) (.ixS 2) [oT 125, oC (nv 0)], yG (some (123, false)) 8 (some 127) (.fld 1) [oT 126], yG (some (123, false)) 9 (some 128) (.ld none) [oT 127], yG (some (123, false)) 10 (some 129) (.bin .lss 0) [oT 128, oC (nv 1)], yS 11 130 .pick [oT 123, oC (.bool true), oT 129], yS 12 131 .mov [oT 130], yG (some (131, false)) 13 (some 132) .mov [oT 8], yG (some (131, false)) 14 (some 133) (.fld 0) [oT 6], yG (some (131, false)) 15 (some 134) (.ld none) [oT 133], yG (some (131, false)) 16 (some 135) (.ixS 2) [oT 134, oC (nv 0)], yG (some (131, false)) 17 (some 136) (.fld 1) [oT 135], yG (some (131, false)) 18 (some 137) (.ld none) [oT 136], yG (some (131, false)) 19 (some 138) (.bin .rem 0) [oT 132, oT 137], yG (some (131, false)) 20 (some 139) (.bin .neq 0) [oT 138, oC (nv 0)], yS 21 140 .pick [oT 131, oC (.bool true), oT 139]]) (.cond (oT 140) (.seq (.reg [yS 0 2 .mov [oC (.bool false)]]) .ret) .skip)) (.seq (.reg [yS 0 141 .mov [oT 10], yS 1 142 .mov [oT 9], yS 2 143 (.fld 0) [oT 6], yS 3 144 (.ld none) [oT 143], yS 4 145 (.ixS 2) [oT 144, oC (nv 0)], yS 5 146 (.fld 0) [oT 145], yS 6 147 (.ld none) [oT 146], yS 7 148 (.bin .mul 0) [oT 142, oT 147], yS 8 149 .mov [oT 8], yS 9 150 (.fld 0) [oT 6], yS 10 151 (.ld none) [oT 150], yS 11 152 (.ixS 2) [oT 151, oC (nv 0)], yS 12 153 (.fld 1) [oT 152], yS 13 154 (.ld none) [oT 153], yS 14 155 (.bin .quo 0) [oT 149, oT 154], yS 15 156 (.bin .mul 0) [oT 148, oT 155], yS 16 157 (.bin .eql 0) [oT 141, oT 156], yS 17 158 .mov [oT 157], yG (some (158, true)) 18 (some 159) .mov [oT 3], yS 19 160 .pick [oT 158, oT 159, oC (.bool false)], yS 20 2 .mov [oT 160]]) .ret)))))))))))))
theorem xd5_ok : compF Try.prog 5 = some ⟨161, [(.tmp 2)], xd5.er⟩ := by kernel_rfl
def g5 (x0 : Value) (H : AH) (R : Value → AH → Prop) : Prop :=
 @letH (H ++ [.cells (cellsL x0) 24 none false]) ⟨fun H1 =>
 @cG 13 [] H1 ⟨fun v12 H2 =>
 @bindO (eun .not v12) ⟨fun v14 =>
 @condK v14 ⟨fun q => if q = true then R (.bool false) H2 else
 @bindO (xload (some 3) H2 [(.pointer (some ⟨H.length, 0, none⟩))]) ⟨fun v15 =>
 @bindO (xload (some 3) H2 [(.pointer (some ⟨H.length, 0, none⟩))]) ⟨fun v17 =>
 @letH (H2 ++ [.cells [(nv 0), (nv 0)] 25 none false]) ⟨fun H3 =>
 @cG 14 [v15] H3 ⟨fun v16 H4 =>
 (chkX [2] (⟨2, (some 3), [(.pointer (some ⟨H.length, 0, none⟩))], v17⟩ :: []) H4 ∧ @cG 15 [v17] H4 ⟨fun v18 H5 =>
 @bindP (xact (.st 2) H5 [(.pointer (some ⟨H2.length, 0, none⟩)), v16]) ⟨fun _v H6 =>
 @bindO (xpure (.ixA 2 1) [(.pointer (some ⟨H2.length, 0, none⟩)), (nv 0)]) ⟨fun v19 =>
 @bindO (xload none H6 [v19]) ⟨fun v20 =>
 @bindO (xpure (.ixA 2 1) [(.pointer (some ⟨H2.length, 0, none⟩)), (nv 1)]) ⟨fun v21 =>
 @bindO (xload none H6 [v21]) ⟨fun v22 =>
 @cG 23 [v20, v22, v18] H6 ⟨fun v24 H7 =>
 @letH (H7 ++ [.cells [(.slice none 0 0), (nv 0)] 36 none false]) ⟨fun H8 =>
 @bindP (xact (.st 2) H8 [(.pointer (some ⟨H7.length, 0, none⟩)), v24]) ⟨fun _v H9 =>
 @bindO (xpure (.ixA 2 1) [(.pointer (some ⟨H2.length, 0, none⟩)), (nv 0)]) ⟨fun v25 =>
 @bindO (xload none H9 [v25]) ⟨fun v26 =>
 @bindO (xpure (.ixA 2 1) [(.pointer (some ⟨H2.length, 0, none⟩)), (nv 1)]) ⟨fun v27 =>
 @bindO (xload none H9 [v27]) ⟨fun v28 =>
 @bindO (xpure (.fld 0) [(.pointer (some ⟨H7.length, 0, none⟩))]) ⟨fun v29 =>
 @bindO (xload none H9 [v29]) ⟨fun v30 =>
 @cG 24 [v26, v28, v30] H9 ⟨fun v31 H10 =>
 @letH (H10 ++ [.cells [(.slice none 0 0), (nv 0)] 36 none false]) ⟨fun H11 =>
 @bindP (xact (.st 2) H11 [(.pointer (some ⟨H10.length, 0, none⟩)), v31]) ⟨fun _v H12 =>
 @bindO (xpure (.fld 1) [(.pointer (some ⟨H7.length, 0, none⟩))]) ⟨fun v32 =>
 @bindO (xload none H12 [v32]) ⟨fun v33 =>
 @bindO (xbin .neq 0 v33 (nv 0)) ⟨fun v34 =>
 @guardJ (asNB v34) (fun J1 => @bindO (xpure (.fld 1) [(.pointer (some ⟨H10.length, 0, none⟩))]) ⟨fun v36 =>
 J1 v36 H12⟩) H12 ⟨fun v36a H13 =>
 @guardJ (asNB v34) (fun J2 => @bindO (xload none H13 [v36a]) ⟨fun v37 =>
 J2 v37 H13⟩) H13 ⟨fun v37a H14 =>
 @guardJ (asNB v34) (fun J3 => @bindO (xbin .neq 0 v37a (nv 0)) ⟨fun v38 =>
 J3 v38 H14⟩) H14 ⟨fun v38a H15 =>
 @pickK v34 (.bool true) v38a ⟨fun v39 =>
 @guardJ (asNB v39) (fun J4 => @bindO (xpure (.fld 0) [(.pointer (some ⟨H10.length, 0, none⟩))]) ⟨fun v41 =>
 J4 v41 H15⟩) H15 ⟨fun v41a H16 =>
 @guardJ (asNB v39) (fun J5 => @bindO (xload none H16 [v41a]) ⟨fun v42 =>
 J5 v42 H16⟩) H16 ⟨fun v42a H17 =>
 @guardJ (asNB v39) (fun J6 => @bindO (xpure .lenS [v42a]) ⟨fun v43 =>
 J6 v43 H17⟩) H17 ⟨fun v43a H18 =>
 @guardJ (asNB v39) (fun J7 => @bindO (xpure (.ixA 2 1) [(.pointer (some ⟨H2.length, 0, none⟩)), (nv 1)]) ⟨fun v44 =>
 J7 v44 H18⟩) H18 ⟨fun v44a H19 =>
 @guardJ (asNB v39) (fun J8 => @bindO (xload none H19 [v44a]) ⟨fun v45 =>
 J8 v45 H19⟩) H19 ⟨fun v45a H20 =>
 @guardJ (asNB v39) (fun J9 => @bindO (xbin .add 0 v45a (nv 1)) ⟨fun v46 =>
 J9 v46 H20⟩) H20 ⟨fun v46a H21 =>
 @guardJ (asNB v39) (fun J10 => @bindO (xbin .neq 0 v43a v46a) ⟨fun v47 =>
 J10 v47 H21⟩) H21 ⟨fun v47a H22 =>
 @pickK v39 (.bool true) v47a ⟨fun v48 =>
 @guardJ (asNB v48) (fun J11 => @bindO (xpure (.fld 0) [(.pointer (some ⟨H10.length, 0, none⟩))]) ⟨fun v50 =>
 J11 v50 H22⟩) H22 ⟨fun v50a H23 =>
 @guardJ (asNB v48) (fun J12 => @bindO (xload none H23 [v50a]) ⟨fun v51 =>
 J12 v51 H23⟩) H23 ⟨fun v51a H24 => @letD (bif (asNB v48) then ⟨19, none, [v50a], v51a⟩ :: [] else []) ⟨fun D1 =>
 @guardJ (asNB v48) (fun J13 => @bindO (xpure (.ixS 2) [v51a, (nv 0)]) ⟨fun v52 =>
 J13 v52 H24⟩) H24 ⟨fun v52a H25 =>
 @guardJ (asNB v48) (fun J14 => @bindO (xload (some 2) H25 [v52a]) ⟨fun v53 =>
 J14 v53 H25⟩) H25 ⟨fun v53a H26 => @letD (bif (asNB v48) then ⟨21, (some 2), [v52a], v53a⟩ :: D1 else D1) ⟨fun D2 =>
 @guardJ (asNB v48) (fun J15 => @cG 26 [(nv 1)] H26 ⟨fun v54 H27 =>
 (chkX [21, 19] D2 H27 ∧ J15 v54 H27)⟩) H26 ⟨fun v54a H28 =>
 @guardJ (asNB v48) (fun J16 => @bindO (xbin .neq 5 v53a v54a) ⟨fun v55 =>
 J16 v55 H28⟩) H28 ⟨fun v55a H29 =>
 @pickK v48 (.bool true) v55a ⟨fun v56 =>
 @condK v56 ⟨fun q => if q = true then R (.bool false) H29 else
 @bindO (xpure .lenS [v18]) ⟨fun v58 =>
 @bindO (xpure (.ixA 2 1) [(.pointer (some ⟨H2.length, 0, none⟩)), (nv 0)]) ⟨fun v59 =>
 @bindO (xload none H29 [v59]) ⟨fun v60 =>
 @bindO (xpure (.ixA 2 1) [(.pointer (some ⟨H2.length, 0, none⟩)), (nv 1)]) ⟨fun v61 =>
 @bindO (xload none H29 [v61]) ⟨fun v62 =>
 @cG 27 [v60, v62] H29 ⟨fun v63 H30 =>
 @loopV2 (nv 0) (nv 0) H30 ⟨fun sum10 i11 H31 K17 =>
 @bindO (xpure (.fld 0) [(.pointer (some ⟨H10.length, 0, none⟩))]) ⟨fun v65 =>
 @bindO (xload none H31 [v65]) ⟨fun v66 =>
 @bindO (xpure .lenS [v66]) ⟨fun v67 =>
 @bindO (xbin .lss 0 i11 v67) ⟨fun v68 =>
 @condK v68 ⟨fun q => if q = true then @bindO (xpure (.fld 0) [(.pointer (some ⟨H10.length, 0, none⟩))]) ⟨fun v71 =>
 @bindO (xload none H31 [v71]) ⟨fun v72 =>
 @bindO (xpure (.ixS 2) [v72, i11]) ⟨fun v74 =>
 @bindO (xpure (.fld 0) [v74]) ⟨fun v75 =>
 @bindO (xload none H31 [v75]) ⟨fun v76 =>
 @bindO (xbin .lss 0 v76 (nv 0)) ⟨fun v77 =>
 @guardJ (asNB v77) (fun J18 => @bindO (xpure (.fld 0) [(.pointer (some ⟨H10.length, 0, none⟩))]) ⟨fun v79 =>
 J18 v79 H31⟩) H31 ⟨fun v79a H32 =>
 @guardJ (asNB v77) (fun J19 => @bindO (xload none H32 [v79a]) ⟨fun v80 =>
 J19 v80 H32⟩) H32 ⟨fun v80a H33 =>
 @guardJ (asNB v77) (fun J20 => J20 i11 H33) H33 ⟨fun v81 H34 =>
 @guardJ (asNB v77) (fun J21 => @bindO (xpure (.ixS 2) [v80a, v81]) ⟨fun v82 =>
 J21 v82 H34⟩) H34 ⟨fun v82a H35 =>
 @guardJ (asNB v77) (fun J22 => @bindO (xpure (.fld 1) [v82a]) ⟨fun v83 =>
 J22 v83 H35⟩) H35 ⟨fun v83a H36 =>
 @guardJ (asNB v77) (fun J23 => @bindO (xload none H36 [v83a]) ⟨fun v84 =>
 J23 v84 H36⟩) H36 ⟨fun v84a H37 =>
 @guardJ (asNB v77) (fun J24 => @bindO (xbin .lss 0 v84a (nv 1)) ⟨fun v85 =>
 J24 v85 H37⟩) H37 ⟨fun v85a H38 =>
 @pickK v77 (.bool true) v85a ⟨fun v86 =>
 @guardJ (asNB v86) (fun J25 => J25 v58 H38) H38 ⟨fun v88 H39 =>
 @guardJ (asNB v86) (fun J26 => J26 v58 H39) H39 ⟨fun v89 H40 =>
 @guardJ (asNB v86) (fun J27 => @bindO (xbin .mul 0 v88 v89) ⟨fun v90 =>
 J27 v90 H40⟩) H40 ⟨fun v90a H41 =>
 @guardJ (asNB v86) (fun J28 => @bindO (xpure (.fld 0) [(.pointer (some ⟨H10.length, 0, none⟩))]) ⟨fun v91 =>
 J28 v91 H41⟩) H41 ⟨fun v91a H42 =>
 @guardJ (asNB v86) (fun J29 => @bindO (xload none H42 [v91a]) ⟨fun v92 =>
 J29 v92 H42⟩) H42 ⟨fun v92a H43 =>
 @guardJ (asNB v86) (fun J30 => J30 i11 H43) H43 ⟨fun v93 H44 =>
 @guardJ (asNB v86) (fun J31 => @bindO (xpure (.ixS 2) [v92a, v93]) ⟨fun v94 =>
 J31 v94 H44⟩) H44 ⟨fun v94a H45 =>
 @guardJ (asNB v86) (fun J32 => @bindO (xpure (.fld 1) [v94a]) ⟨fun v95 =>
 J32 v95 H45⟩) H45 ⟨fun v95a H46 =>
 @guardJ (asNB v86) (fun J33 => @bindO (xload none H46 [v95a]) ⟨fun v96 =>
 J33 v96 H46⟩) H46 ⟨fun v96a H47 =>
 @guardJ (asNB v86) (fun J34 => @bindO (xbin .rem 0 v90a v96a) ⟨fun v97 =>
 J34 v97 H47⟩) H47 ⟨fun v97a H48 =>
 @guardJ (asNB v86) (fun J35 => @bindO (xbin .neq 0 v97a (nv 0)) ⟨fun v98 =>
 J35 v98 H48⟩) H48 ⟨fun v98a H49 =>
 @pickK v86 (.bool true) v98a ⟨fun v99 =>
 @condK v99 ⟨fun q => if q = true then R (.bool false) H49 else
 @bindO (xpure (.fld 0) [(.pointer (some ⟨H10.length, 0, none⟩))]) ⟨fun v101 =>
 @bindO (xload none H49 [v101]) ⟨fun v102 =>
 @bindO (xpure (.ixS 2) [v102, i11]) ⟨fun v104 =>
 @bindO (xpure (.fld 0) [v104]) ⟨fun v105 =>
 @bindO (xload none H49 [v105]) ⟨fun v106 =>
 @bindO (xbin .mul 0 v58 v58) ⟨fun v109 =>
 @bindO (xpure (.fld 0) [(.pointer (some ⟨H10.length, 0, none⟩))]) ⟨fun v110 =>
 @bindO (xload none H49 [v110]) ⟨fun v111 =>
 @bindO (xpure (.ixS 2) [v111, i11]) ⟨fun v113 =>
 @bindO (xpure (.fld 1) [v113]) ⟨fun v114 =>
 @bindO (xload none H49 [v114]) ⟨fun v115 =>
 @bindO (xbin .quo 0 v109 v115) ⟨fun v116 =>
 @bindO (xbin .mul 0 v106 v116) ⟨fun v117 =>
 @bindO (xbin .add 0 sum10 v117) ⟨fun v118 =>
 @bindO (xbin .add 0 i11 (nv 1)) ⟨fun v70 =>
 K17 v118 v70 H49⟩⟩⟩⟩⟩⟩⟩⟩⟩⟩⟩⟩⟩⟩⟩⟩⟩⟩⟩⟩⟩⟩⟩⟩⟩⟩⟩⟩⟩⟩⟩⟩⟩⟩⟩⟩⟩⟩⟩⟩⟩⟩ else
 @bindO (xpure (.fld 0) [(.pointer (some ⟨H7.length, 0, none⟩))]) ⟨fun v119 =>
 @bindO (xload none H31 [v119]) ⟨fun v120 =>
 @bindO (xpure .lenS [v120]) ⟨fun v121 =>
 @bindO (xbin .eql 0 v121 (nv 0)) ⟨fun v122 =>
 @guardJ (asNB v122) (fun J36 => @bindO (xpure (.fld 0) [(.pointer (some ⟨H7.length, 0, none⟩))]) ⟨fun v124 =>
 J36 v124 H31⟩) H31 ⟨fun v124a H50 =>
 @guardJ (asNB v122) (fun J37 => @bindO (xload none H50 [v124a]) ⟨fun v125 =>
 J37 v125 H50⟩) H50 ⟨fun v125a H51 =>
 @guardJ (asNB v122) (fun J38 => @bindO (xpure (.ixS 2) [v125a, (nv 0)]) ⟨fun v126 =>
 J38 v126 H51⟩) H51 ⟨fun v126a H52 =>
 @guardJ (asNB v122) (fun J39 => @bindO (xpure (.fld 1) [v126a]) ⟨fun v127 =>
 J39 v127 H52⟩) H52 ⟨fun v127a H53 =>
 @guardJ (asNB v122) (fun J40 => @bindO (xload none H53 [v127a]) ⟨fun v128 =>
 J40 v128 H53⟩) H53 ⟨fun v128a H54 =>
 @guardJ (asNB v122) (fun J41 => @bindO (xbin .lss 0 v128a (nv 1)) ⟨fun v129 =>
 J41 v129 H54⟩) H54 ⟨fun v129a H55 =>
 @pickK v122 (.bool true) v129a ⟨fun v130 =>
 @guardJ (asNB v130) (fun J42 => J42 v58 H55) H55 ⟨fun v132 H56 =>
 @guardJ (asNB v130) (fun J43 => @bindO (xpure (.fld 0) [(.pointer (some ⟨H7.length, 0, none⟩))]) ⟨fun v133 =>
 J43 v133 H56⟩) H56 ⟨fun v133a H57 =>
 @guardJ (asNB v130) (fun J44 => @bindO (xload none H57 [v133a]) ⟨fun v134 =>
 J44 v134 H57⟩) H57 ⟨fun v134a H58 =>
 @guardJ (asNB v130) (fun J45 => @bindO (xpure (.ixS 2) [v134a, (nv 0)]) ⟨fun v135 =>
 J45 v135 H58⟩) H58 ⟨fun v135a H59 =>
 @guardJ (asNB v130) (fun J46 => @bindO (xpure (.fld 1) [v135a]) ⟨fun v136 =>
 J46 v136 H59⟩) H59 ⟨fun v136a H60 =>
 @guardJ (asNB v130) (fun J47 => @bindO (xload none H60 [v136a]) ⟨fun v137 =>
 J47 v137 H60⟩) H60 ⟨fun v137a H61 =>
 @guardJ (asNB v130) (fun J48 => @bindO (xbin .rem 0 v132 v137a) ⟨fun v138 =>
 J48 v138 H61⟩) H61 ⟨fun v138a H62 =>
 @guardJ (asNB v130) (fun J49 => @bindO (xbin .neq 0 v138a (nv 0)) ⟨fun v139 =>
 J49 v139 H62⟩) H62 ⟨fun v139a H63 =>
 @pickK v130 (.bool true) v139a ⟨fun v140 =>
 @condK v140 ⟨fun q => if q = true then R (.bool false) H63 else
 @bindO (xpure (.fld 0) [(.pointer (some ⟨H7.length, 0, none⟩))]) ⟨fun v143 =>
 @bindO (xload none H63 [v143]) ⟨fun v144 =>
 @bindO (xpure (.ixS 2) [v144, (nv 0)]) ⟨fun v145 =>
 @bindO (xpure (.fld 0) [v145]) ⟨fun v146 =>
 @bindO (xload none H63 [v146]) ⟨fun v147 =>
 @bindO (xbin .mul 0 v63 v147) ⟨fun v148 =>
 @bindO (xpure (.fld 0) [(.pointer (some ⟨H7.length, 0, none⟩))]) ⟨fun v150 =>
 @bindO (xload none H63 [v150]) ⟨fun v151 =>
 @bindO (xpure (.ixS 2) [v151, (nv 0)]) ⟨fun v152 =>
 @bindO (xpure (.fld 1) [v152]) ⟨fun v153 =>
 @bindO (xload none H63 [v153]) ⟨fun v154 =>
 @bindO (xbin .quo 0 v58 v154) ⟨fun v155 =>
 @bindO (xbin .mul 0 v148 v155) ⟨fun v156 =>
 @bindO (xbin .eql 0 sum10 v156) ⟨fun v157 =>
 @guardJ (asB v157) (fun J50 => J50 v12 H63) H63 ⟨fun v159 H64 =>
 @pickK v157 v159 (.bool false) ⟨fun v160 =>
 R v160 H64⟩⟩⟩⟩⟩⟩⟩⟩⟩⟩⟩⟩⟩⟩⟩⟩⟩⟩⟩⟩⟩⟩⟩⟩⟩⟩⟩⟩⟩⟩⟩⟩⟩⟩⟩⟩⟩⟩⟩⟩⟩⟩⟩⟩⟩⟩⟩⟩⟩⟩⟩⟩⟩⟩⟩⟩⟩⟩⟩⟩⟩⟩⟩⟩⟩⟩⟩⟩⟩⟩⟩⟩⟩⟩⟩⟩⟩⟩⟩⟩⟩⟩⟩⟩⟩⟩⟩⟩⟩⟩⟩⟩)⟩⟩⟩⟩⟩⟩⟩⟩
theorem g5_of {x0 : Value} {H : AH} {R : Value → AH → Prop} (h : g5 x0 H R) : FN Try.prog 5 [x0] H R :=
  FN.of_XD mixed xd5_ok (by kernel_rfl) (Nat.le_of_ble_eq_true rfl) (cast (by kernel_rfl) h)
def xd6 : XD := (.seq (.reg [yS 0 1 (.box 24) [oT 0], yS 1 2 .mov [oC (.bool false)]]) (.seq (.reg [yS 0 9 .call [oF 13], yS 1 3 .mov [oT 9]]) (.seq (.seq (.reg [yS 0 10 .mov [oT 3], yS 1 11 (.un .not) [oT 10]]) (.cond (oT 11) (.seq (.reg [yS 0 2 .mov [oC (.bool false)]]) .ret) .skip)) (.seq (.reg [yS 0 12 (.ld (some 3)) [oT 1], ⟨none, (.ld (some 3)), [oT 1], some 14, 2, true, []⟩, yS 4 4 (.new [(nv 0), (nv 0)] 25) [], ⟨none, .call, [oF 14, oT 12], some 13, 1, false, [2]⟩, yS 3 15 .call [oF 15, oT 14], yN 5 (.st 2) [oT 4, oT 13], yS 6 5 .mov [oT 15]]) (.seq (.reg [yS 0 16 (.ixA 2 1) [oT 4, oC (nv 0)], ⟨none, (.ld none), [oT 16], some 17, 1, true, []⟩, yS 2 18 (.ixA 2 1) [oT 4, oC (nv 1)], ⟨none, (.ld none), [oT 18], some 19, 3, true, []⟩, yS 4 20 (.ixA 2 1) [oT 4, oC (nv 0)], yS 5 21 (.ld none) [oT 20], yS 6 22 (.ixA 2 1) [oT 4, oC (nv 1)], yS 7 23 (.ld none) [oT 22], yS 8 24 .mov [oT 5], yS 12 6 (.new [(.slice none 0 0), (nv 0)] 36) [], ⟨none, .call, [oF 23, oT 21, oT 23, oT 24], some 25, 9, false, [3, 1]⟩, yS 10 26 (.prt none 0) [oT 25], yS 11 27 .call [oF 24, oT 17, oT 19, oT 26], yN 13 (.st 2) [oT 6, oT 27]]) (.seq (.seq (.reg [yS 0 28 (.fld 1) [oT 6], yS 1 29 (.ld none) [oT 28], yS 2 30 (.bin .neq 0) [oT 29, oC (nv 0)], yS 3 31 .mov [oT 30], yG (some (31, false)) 4 (some 32) (.fld 0) [oT 6], yG (some (31, false)) 5 (some 33) (.ld none) [oT 32], yG (some (31, false)) 6 (some 34) .lenS [oT 33], yG (some (31, false)) 7 (some 35) (.ixA 2 1) [oT 4, oC (nv 1)], yG (some (31, false)) 8 (some 36) (.ld none) [oT 35], yG (some (31, false)) 9 (some 37) (.bin .add 0) [oT 36, oC (nv 1)], yG (some (31, false)) 10 (some 38) (.bin .neq 0) [oT 34, oT 37], yS 11 39 .pick [oT 31, oC (.bool true), oT 38]]) (.cond (oT 39) (.seq (.reg [yS 0 2 .mov [oC (.bool false)]]) .ret) .skip)) (.seq (.reg [yS 0 7 .mov [oC (.bool true)]]) (.seq (.seq (.reg [yS 0 8 .mov [oC (nv 1)]]) (.block 0 (.loop [7, 8] 4611684918915760516 (.seq (.seq (.reg [yS 0 40 .mov [oT 8], yS 1 41 (.ixA 2 1) [oT 4, oC (nv 1)], yS 2 42 (.ld none) [oT 41], yS 3 43 (.bin .leq 0) [oT 40, oT 42]]) (.cond (oT 43) .skip (.exit 0))) (.seq (.block 1 (.seq (.reg [yS 0 46 .mov [oT 7], yS 1 47 .mov [oT 46], yG (some (47, true)) 2 (some 48) (.fld 0) [oT 6], yG (some (47, true)) 3 (some 49) (.ld none) [oT 48], yG (some (47, true)) 4 (some 50) .mov [oT 8], yG (some (47, true)) 5 (some 51) (.ixS 2) [oT 49, oT 50], yG (some (47, true)) 6 (some 52) (.fld 0) [oT 51], yG (some (47, true)) 7 (some 53) (.ld none) [oT 52], yG (some (47, true)) 8 (some 54) (.bin .eql 0) [oT 53, oC (nv 0)], yS 9 55 .pick [oT 47, oT 54, oC (.bool false)], yS 10 7 .mov [oT 55]]) (.seq (.reg [yS 0 56 .mov [oT 7], yS 1 57 (.ld (some 2)) [oT 4], yS 2 58 .mov [oT 5], yS 3 59 .mov [oT 8], yS 4 60 .call [oF 28, oT 57, oT 58, oT 59], yS 5 61 (.bin .neq 1) [oT 56, oT 60]]) (.cond (oT 61) (.seq (.reg [yS 0 2 .mov [oC (.bool false)]]) .ret) .skip)))) (.reg [yS 0 44 .mov [oT 8], yS 1 45 (.bin .add 0) [oT 44, oC (nv 1)], yS 2 8 .mov [oT 45]])))))) (.seq (.reg [yS 0 62 .mov [oT 3], yS 1 2 .mov [oT 62]]) .ret)))))))))
theorem xd6_ok : compF Try.prog 6 = some ⟨63, [(.tmp 2)], xd6.er⟩ := by kernel_rfl
def g6 (x0 : Value) (H : AH) (R : Value → AH → Prop) : Prop :=
 @letH (H ++ [.cells (cellsL x0) 24 none false]) ⟨fun H1 =>
 @cG 13 [] H1 ⟨fun v9 H2 =>
 @bindO (eun .not v9) ⟨fun v11 =>
 @condK v11 ⟨fun q => if q = true then R (.bool false) H2 else
 @bindO (xload (some 3) H2 [(.pointer (some ⟨H.length, 0, none⟩))]) ⟨fun v12 =>
 @bindO (xload (some 3) H2 [(.pointer (some ⟨H.length, 0, none⟩))]) ⟨fun v14 =>
 @letH (H2 ++ [.cells [(nv 0), (nv 0)] 25 none false]) ⟨fun H3 =>
 @cG 14 [v12] H3 ⟨fun v13 H4 =>
 (chkX [2] (⟨2, (some 3), [(.pointer (some ⟨H.length, 0, none⟩))], v14⟩ :: []) H4 ∧ @cG 15 [v14] H4 ⟨fun v15 H5 =>
 @bindP (xact (.st 2) H5 [(.pointer (some ⟨H2.length, 0, none⟩)), v13]) ⟨fun _v H6 =>
 @bindO (xpure (.ixA 2 1) [(.pointer (some ⟨H2.length, 0, none⟩)), (nv 0)]) ⟨fun v16 =>
 @bindO (xload none H6 [v16]) ⟨fun v17 =>
 @bindO (xpure (.ixA 2 1) [(.pointer (some ⟨H2.length, 0, none⟩)), (nv 1)]) ⟨fun v18 =>
 @bindO (xload none H6 [v18]) ⟨fun v19 =>
 @bindO (xpure (.ixA 2 1) [(.pointer (some ⟨H2.length, 0, none⟩)), (nv 0)]) ⟨fun v20 =>
 @bindO (xload none H6 [v20]) ⟨fun v21 =>
 @bindO (xpure (.ixA 2 1) [(.pointer (some ⟨H2.length, 0, none⟩)), (nv 1)]) ⟨fun v22 =>
 @bindO (xload none H6 [v22]) ⟨fun v23 =>
 @letH (H6 ++ [.cells [(.slice none 0 0), (nv 0)] 36 none false]) ⟨fun H7 =>
 @cG 23 [v21, v23, v15] H7 ⟨fun v25 H8 =>
 (chkX [3, 1] (⟨3, none, [v18], v19⟩ :: (⟨1, none, [v16], v17⟩ :: [])) H8 ∧ @bindO (xpure (.prt none 0) [v25]) ⟨fun v26 =>
 @cG 24 [v17, v19, v26] H8 ⟨fun v27 H9 =>
 @bindP (xact (.st 2) H9 [(.pointer (some ⟨H6.length, 0, none⟩)), v27]) ⟨fun _v H10 =>
 @bindO (xpure (.fld 1) [(.pointer (some ⟨H6.length, 0, none⟩))]) ⟨fun v28 =>
 @bindO (xload none H10 [v28]) ⟨fun v29 =>
 @bindO (xbin .neq 0 v29 (nv 0)) ⟨fun v30 =>
 @guardJ (asNB v30) (fun J1 => @bindO (xpure (.fld 0) [(.pointer (some ⟨H6.length, 0, none⟩))]) ⟨fun v32 =>
 J1 v32 H10⟩) H10 ⟨fun v32a H11 =>
 @guardJ (asNB v30) (fun J2 => @bindO (xload none H11 [v32a]) ⟨fun v33 =>
 J2 v33 H11⟩) H11 ⟨fun v33a H12 =>
 @guardJ (asNB v30) (fun J3 => @bindO (xpure .lenS [v33a]) ⟨fun v34 =>
 J3 v34 H12⟩) H12 ⟨fun v34a H13 =>
 @guardJ (asNB v30) (fun J4 => @bindO (xpure (.ixA 2 1) [(.pointer (some ⟨H2.length, 0, none⟩)), (nv 1)]) ⟨fun v35 =>
 J4 v35 H13⟩) H13 ⟨fun v35a H14 =>
 @guardJ (asNB v30) (fun J5 => @bindO (xload none H14 [v35a]) ⟨fun v36 =>
 J5 v36 H14⟩) H14 ⟨fun v36a H15 =>
 @guardJ (asNB v30) (fun J6 => @bindO (xbin .add 0 v36a (nv 1)) ⟨fun v37 =>
 J6 v37 H15⟩) H15 ⟨fun v37a H16 =>
 @guardJ (asNB v30) (fun J7 => @bindO (xbin .neq 0 v34a v37a) ⟨fun v38 =>
 J7 v38 H16⟩) H16 ⟨fun v38a H17 =>
 @pickK v30 (.bool true) v38a ⟨fun v39 =>
 @condK v39 ⟨fun q => if q = true then R (.bool false) H17 else
 @loopV2 (.bool true) (nv 1) H17 ⟨fun zero7 k8 H18 K8 =>
 @bindO (xpure (.ixA 2 1) [(.pointer (some ⟨H2.length, 0, none⟩)), (nv 1)]) ⟨fun v41 =>
 @bindO (xload none H18 [v41]) ⟨fun v42 =>
 @bindO (xbin .leq 0 k8 v42) ⟨fun v43 =>
 @condK v43 ⟨fun q => if q = true then @guardJ (asB zero7) (fun J9 => @bindO (xpure (.fld 0) [(.pointer (some ⟨H6.length, 0, none⟩))]) ⟨fun v48 =>
 J9 v48 H18⟩) H18 ⟨fun v48a H19 =>
 @guardJ (asB zero7) (fun J10 => @bindO (xload none H19 [v48a]) ⟨fun v49 =>
 J10 v49 H19⟩) H19 ⟨fun v49a H20 =>
 @guardJ (asB zero7) (fun J11 => J11 k8 H20) H20 ⟨fun v50 H21 =>
 @guardJ (asB zero7) (fun J12 => @bindO (xpure (.ixS 2) [v49a, v50]) ⟨fun v51 =>
 J12 v51 H21⟩) H21 ⟨fun v51a H22 =>
 @guardJ (asB zero7) (fun J13 => @bindO (xpure (.fld 0) [v51a]) ⟨fun v52 =>
 J13 v52 H22⟩) H22 ⟨fun v52a H23 =>
 @guardJ (asB zero7) (fun J14 => @bindO (xload none H23 [v52a]) ⟨fun v53 =>
 J14 v53 H23⟩) H23 ⟨fun v53a H24 =>
 @guardJ (asB zero7) (fun J15 => @bindO (xbin .eql 0 v53a (nv 0)) ⟨fun v54 =>
 J15 v54 H24⟩) H24 ⟨fun v54a H25 =>
 @pickK zero7 v54a (.bool false) ⟨fun v55 =>
 @bindO (xload (some 2) H25 [(.pointer (some ⟨H2.length, 0, none⟩))]) ⟨fun v57 =>
 @cG 28 [v57, v15, k8] H25 ⟨fun v60 H26 =>
 @bindO (xbin .neq 1 v55 v60) ⟨fun v61 =>
 @condK v61 ⟨fun q => if q = true then R (.bool false) H26 else
 @bindO (xbin .add 0 k8 (nv 1)) ⟨fun v45 =>
 K8 v55 v45 H26⟩⟩⟩⟩⟩⟩⟩⟩⟩⟩⟩⟩⟩ else
 R v9 H18⟩⟩⟩⟩⟩⟩⟩⟩⟩⟩⟩⟩⟩⟩⟩⟩⟩⟩⟩⟩)⟩⟩⟩⟩⟩⟩⟩⟩⟩⟩⟩⟩)⟩⟩⟩⟩⟩⟩⟩⟩
theorem g6_of {x0 : Value} {H : AH} {R : Value → AH → Prop} (h : g6 x0 H R) : FN Try.prog 6 [x0] H R :=
  FN.of_XD mixed xd6_ok (by kernel_rfl) (Nat.le_of_ble_eq_true rfl) (cast (by kernel_rfl) h)
def xd13 : XD := (.seq (.reg [yS 0 0 .mov [oC (.bool false)]]) (.seq (.reg [yS 0 6 (.bld [(nv 0), (nv 0)] [(0, 1), (1, 1)]) [oC (nv 1), oC (nv 1)], yS 1 7 .call [oF 17, oC (nv 2), oC (nv 3), oT 6], yS 2 8 (.bld [(nv 0), (nv 0)] [(0, 1), (1, 1)]) [oC (nv 2), oC (nv 3)], yS 3 9 .call [oF 17, oC (nv 2), oC (nv 3), oT 8], yS 4 1 (.new [(nv 0), (nv 0)] 39) [], yS 5 2 (.new [(nv 0), (nv 0)] 39) [], yN 6 (.st 2) [oT 1, oT 7], yN 7 (.st 2) [oT 2, oT 9]]) (.seq (.reg [yS 0 10 (.bsl [(nv 0), (nv 0), (nv 0), (nv 0)] 4 [(0, 1), (1, 1), (2, 1), (3, 1)] 3) [oC (nv 1), oC (nv 0), oC (nv 0), oC (nv 1)], yS 1 11 .call [oF 20, oC (nv 2), oC (nv 3), oT 10], yS 2 3 (.new [(.slice none 0 0), (nv 0)] 43) [], yN 3 (.st 2) [oT 3, oT 11]]) (.seq (.reg [yS 0 12 (.bsl [(nv 0), (nv 0)] 2 [(0, 1), (1, 1)] 3) [oC (nv 0), oC (nv 0)], yS 1 13 (.bsl [(nv 0), (nv 0)] 2 [(0, 1), (1, 1)] 3) [oC (nv 0), oC (nv 1)], yS 2 14 (.bsl [(.slice none 0 0), (.slice none 0 0)] 2 [(0, 1), (1, 1)] 26) [oT 12, oT 13], yS 3 15 .call [oF 23, oC (nv 2), oC (nv 2), oT 14], yS 4 4 (.new [(.slice none 0 0), (nv 0)] 36) [], yN 5 (.st 2) [oT 4, oT 15]]) (.seq (.seq (.reg [yS 0 16 (.fld 1) [oT 1], yS 1 17 (.ld none) [oT 16], yS 2 18 (.bin .neq 0) [oT 17, oC (nv 0)], yS 3 19 .mov [oT 18], yG (some (19, false)) 4 (some 20) (.fld 0) [oT 1], yG (some (19, false)) 5 (some 21) (.ld none) [oT 20], yG (some (19, false)) 6 (some 22) (.bin .neq 0) [oT 21, oC (nv 1)], yS 7 23 .pick [oT 19, oC (.bool true), oT 22], yS 8 24 .mov [oT 23], yG (some (24, false)) 9 (some 25) (.fld 0) [oT 2], yG (some (24, false)) 10 (some 26) (.ld none) [oT 25], yG (some (24, false)) 11 (some 27) (.bin .neq 0) [oT 26, oC (nv 3)], yS 12 28 .pick [oT 24, oC (.bool true), oT 27], yS 13 29 .mov [oT 28], yG (some (29, false)) 14 (some 30) (.fld 1) [oT 3], yG (some (29, false)) 15 (some 31) (.ld none) [oT 30], yG (some (29, false)) 16 (some 32) (.bin .neq 0) [oT 31, oC (nv 0)], yS 17 33 .pick [oT 29, oC (.bool true), oT 32], yS 18 34 .mov [oT 33], yG (some (34, false)) 19 (some 35) (.fld 0) [oT 3], yG (some (34, false)) 20 (some 36) (.ld none) [oT 35], yG (some (34, false)) 21 (some 37) (.bsl [(nv 0), (nv 0), (nv 0), (nv 0)] 4 [(0, 1), (1, 1), (2, 1), (3, 1)] 3) [oC (nv 1), oC (nv 0), oC (nv 3), oC (nv 0)], yG (some (34, false)) 22 (some 38) .call [oF 69, oT 36, oT 37], yG (some (34, false)) 23 (some 39) (.un .not) [oT 38], yS 24 40 .pick [oT 34, oC (.bool true), oT 39], yS 25 41 .mov [oT 40], yG (some (41, false)) 26 (some 42) (.fld 1) [oT 4], yG (some (41, false)) 27 (some 43) (.ld none) [oT 42], yG (some (41, false)) 28 (some 44) (.bin .neq 0) [oT 43, oC (nv 0)], yS 29 45 .pick [oT 41, oC (.bool true), oT 44], yS 30 46 .mov [oT 45], yG (some (46, false)) 31 (some 47) (.fld 0) [oT 4], ⟨(some (46, false)), (.ld none), [oT 47], some 48, 32, true, []⟩, ⟨(some (46, false)), .call, [oF 26, oC (nv 1)], some 49, 33, false, [32]⟩, ⟨(some (46, false)), .call, [oF 26, oC (nv 1)], some 50, 34, false, [32]⟩, ⟨(some (46, false)), .call, [oF 26, oC (nv 0)], some 51, 35, false, [32]⟩, ⟨(some (46, false)), (.bsl [(nv 0), (nv 0), (nv 0), (nv 0), (nv 0), (nv 0)] 3 [(0, 2), (2, 2), (4, 2)] 51), [oT 49, oT 50, oT 51], some 52, 36, false, [32]⟩, yG (some (46, false)) 37 (some 53) .call [oF 70, oT 48, oT 52], yG (some (46, false)) 38 (some 54) (.un .not) [oT 53], yS 39 55 .pick [oT 46, oC (.bool true), oT 54]]) (.cond (oT 55) (.seq (.reg [yS 0 0 .mov [oC (.bool false)]]) .ret) .skip)) (.seq (.reg [yS 0 56 (.fld 0) [oT 4], yS 1 57 (.ld none) [oT 56], yS 2 58 .call [oF 24, oC (nv 2), oC (nv 2), oT 57], yS 3 5 (.new [(.slice none 0 0), (nv 0)] 36) [], yN 4 (.st 2) [oT 5, oT 58]]) (.seq (.reg [yS 0 59 (.fld 1) [oT 5], yS 1 60 (.ld none) [oT 59], yS 2 61 (.bin .eql 0) [oT 60, oC (nv 0)], yS 3 62 .mov [oT 61], yG (some (62, true)) 4 (some 63) (.fld 0) [oT 5], ⟨(some (62, true)), (.ld none), [oT 63], some 64, 5, true, []⟩, ⟨(some (62, true)), .call, [oF 26, oC (nv 1)], some 65, 6, false, [5]⟩, ⟨(some (62, true)), .call, [oF 26, oC (nv 1)], some 66, 7, false, [5]⟩, ⟨(some (62, true)), .call, [oF 26, oC (nv 0)], some 67, 8, false, [5]⟩, ⟨(some (62, true)), (.bsl [(nv 0), (nv 0), (nv 0), (nv 0), (nv 0), (nv 0)] 3 [(0, 2), (2, 2), (4, 2)] 51), [oT 65, oT 66, oT 67], some 68, 9, false, [5]⟩, yG (some (62, true)) 10 (some 69) .call [oF 70, oT 64, oT 68], yS 11 70 .pick [oT 62, oT 69, oC (.bool false)], yS 12 71 .mov [oT 70], yG (some (71, true)) 13 (some 72) (.bsl [(nv 0), (nv 0), (nv 0), (nv 0)] 4 [(0, 1), (1, 1), (2, 1), (3, 1)] 3) [oC (nv 1), oC (nv 1), oC (nv 0), oC (nv 1)], yG (some (71, true)) 14 (some 73) .call [oF 20, oC (nv 2), oC (nv 3), oT 72], yG (some (71, true)) 15 (some 74) (.prt none 1) [oT 73], yG (some (71, true)) 16 (some 75) (.bin .eql 0) [oT 74, oC (nv 6)], yS 17 76 .pick [oT 71, oT 75, oC (.bool false)], yS 18 77 .mov [oT 76], yG (some (77, true)) 19 (some 78) (.bsl [(nv 0)] 1 [(0, 1)] 3) [oC (nv 1)], yG (some (77, true)) 20 (some 79) .call [oF 20, oC (nv 2), oC (nv 3), oT 78], yG (some (77, true)) 21 (some 80) (.prt none 1) [oT 79], yG (some (77, true)) 22 (some 81) (.bin .eql 0) [oT 80, oC (nv 1)], yS 23 82 .pick [oT 77, oT 81, oC (.bool false)], yS 24 83 .mov [oT 82], yG (some (83, true)) 25 (some 84) .call [oF 20, oC (nv 16), oC (nv 8), oC (.slice none 0 0)], yG (some (83, true)) 26 (some 85) (.prt none 1) [oT 84], yG (some (83, true)) 27 (some 86) (.bin .eql 0) [oT 85, oC (nv 2)], yS 28 87 .pick [oT 83, oT 86, oC (.bool false)], yS 29 88 .mov [oT 87], yG (some (88, true)) 30 (some 89) (.bld [(nv 0), (nv 0)] [(0, 1), (1, 1)]) [oC (nv 0), oC (nv 0)], yG (some (88, true)) 31 (some 90) .call [oF 17, oC (nv 16), oC (nv 16), oT 89], yG (some (88, true)) 32 (some 91) (.prt none 1) [oT 90], yG (some (88, true)) 33 (some 92) (.bin .eql 0) [oT 91, oC (nv 2)], yS 34 93 .pick [oT 88, oT 92, oC (.bool false)], yS 35 94 .mov [oT 93], yG (some (94, true)) 36 (some 95) (.bld [(nv 0), (nv 0)] []) [], yG (some (94, true)) 37 (some 96) .call [oF 17, oC (nv 1), oC (nv 3), oT 95], yG (some (94, true)) 38 (some 97) (.prt none 1) [oT 96], yG (some (94, true)) 39 (some 98) (.bin .eql 0) [oT 97, oC (nv 1)], yS 40 99 .pick [oT 94, oT 98, oC (.bool false)], yS 41 0 .mov [oT 99]]) .ret)))))))
theorem xd13_ok : compF Try.prog 13 = some ⟨100, [(.tmp 0)], xd13.er⟩ := by kernel_rfl
def xd15 : XD := (.seq (.reg [yS 0 1 (.box 24) [oT 0], yS 1 2 .mov [oC (.slice none 0 0)]]) (.seq (.reg [yS 0 9 (.ld (some 3)) [oT 1], yS 1 10 .call [oF 14, oT 9], yS 2 3 (.new [(nv 0), (nv 0)] 25) [], yN 3 (.st 2) [oT 3, oT 10]]) (.seq (.reg [yS 0 11 (.bsl [] 0 [] 26) [], yS 1 4 .mov [oT 11]]) (.seq (.seq (.reg [yS 0 5 .mov [oC (nv 0)]]) (.block 0 (.loop [4, 5] 9223372036854772208 (.seq (.seq (.reg [yS 0 12 .mov [oT 5], yS 1 13 (.fld 2) [oT 1], yS 2 14 (.ld none) [oT 13], yS 3 15 .lenS [oT 14], yS 4 16 .min2 [oT 15, oC (nv 12)], yS 5 17 .max2 [oC (nv 1), oT 16], yS 6 18 (.bin .lss 0) [oT 12, oT 17]]) (.cond (oT 18) .skip (.exit 0))) (.seq (.block 1 (.seq (.reg [yS 0 21 (.bsl [] 0 [] 3) [], yS 1 6 .mov [oT 21]]) (.seq (.seq (.reg [yS 0 7 .mov [oC (nv 0)]]) (.block 2 (.loop [6, 7] 576460752299229632 (.seq (.seq (.reg [yS 0 22 .mov [oT 7], yS 1 23 (.ixA 2 1) [oT 3, oC (nv 1)], yS 2 24 (.ld none) [oT 23], yS 3 25 (.bin .lss 0) [oT 22, oT 24]]) (.cond (oT 25) .skip (.exit 2))) (.seq (.block 3 (.seq (.reg [yS 0 8 .mov [oC (nv 0)]]) (.join [8] 36028796750528768 (.seq (.reg [yS 0 28 .mov [oT 5], yS 1 29 (.fld 2) [oT 1], yS 2 30 (.ld none) [oT 29], yS 3 31 .lenS [oT 30], yS 4 32 (.bin .lss 0) [oT 28, oT 31], yS 5 33 .mov [oT 32], yG (some (33, true)) 6 (some 34) .mov [oT 7], yG (some (33, true)) 7 (some 35) (.fld 2) [oT 1], yG (some (33, true)) 8 (some 36) (.ld none) [oT 35], yG (some (33, true)) 9 (some 37) .mov [oT 5], yG (some (33, true)) 10 (some 38) (.ixS 1) [oT 36, oT 37], yG (some (33, true)) 11 (some 39) (.ld none) [oT 38], yG (some (33, true)) 12 (some 40) .lenS [oT 39], yG (some (33, true)) 13 (some 41) (.bin .lss 0) [oT 34, oT 40], yS 14 42 .pick [oT 33, oT 41, oC (.bool false)]]) (.cond (oT 42) (.reg [yS 0 43 (.fld 2) [oT 1], yS 1 44 (.ld none) [oT 43], yS 2 45 .mov [oT 5], yS 3 46 (.ixS 1) [oT 44, oT 45], yS 4 47 (.ld none) [oT 46], yS 5 48 .mov [oT 7], yS 6 49 (.ixS 1) [oT 47, oT 48], yS 7 50 (.ld none) [oT 49], yS 8 51 (.conv .i64) [oT 50], yS 9 52 (.ixA 2 1) [oT 3, oC (nv 0)], yS 10 53 (.ld none) [oT 52], yS 11 54 (.bin .rem 0) [oT 51, oT 53], yS 12 8 .mov [oT 54]]) .skip)) (.reg [yS 0 55 .mov [oT 6], yS 1 56 .mov [oT 8], yS 2 57 (.bsl [(nv 0)] 1 [(0, 1)] 3) [oT 56], yS 3 58 (.app 3 1 8) [oT 55, oT 57], yS 4 6 .mov [oT 58]])))) (.reg [yS 0 26 .mov [oT 7], yS 1 27 (.bin .add 0) [oT 26, oC (nv 1)], yS 2 7 .mov [oT 27]])))))) (.reg [yS 0 59 .mov [oT 4], yS 1 60 .mov [oT 6], yS 2 61 (.bsl [(.slice none 0 0)] 1 [(0, 1)] 26) [oT 60], yS 3 62 (.app 26 1 24) [oT 59, oT 61], yS 4 4 .mov [oT 62]])))) (.reg [yS 0 19 .mov [oT 5], yS 1 20 (.bin .add 0) [oT 19, oC (nv 1)], yS 2 5 .mov [oT 20]])))))) (.seq (.reg [yS 0 63 .mov [oT 4], yS 1 2 .mov [oT 63]]) .ret)))))
theorem xd15_ok : compF Try.prog 15 = some ⟨64, [(.tmp 2)], xd15.er⟩ := by kernel_rfl
def g15 (x0 : Value) (H : AH) (R : Value → AH → Prop) : Prop :=
 @letH (H ++ [.cells (cellsL x0) 24 none false]) ⟨fun H1 =>
 @bindO (xload (some 3) H1 [(.pointer (some ⟨H.length, 0, none⟩))]) ⟨fun v9 =>
 @cG 14 [v9] H1 ⟨fun v10 H2 =>
 @letH (H2 ++ [.cells [(nv 0), (nv 0)] 25 none false]) ⟨fun H3 =>
 @bindP (xact (.st 2) H3 [(.pointer (some ⟨H2.length, 0, none⟩)), v10]) ⟨fun _v H4 =>
 @bindL (xfill [] [] []) ⟨fun cv11 => @letH (H4 ++ [.cells cv11 26 none false]) ⟨fun H5 =>
 @loopV2 (.slice (some ⟨H4.length, 0, none⟩) 0 0) (nv 0) H5 ⟨fun out4 i5 H6 K1 =>
 @bindO (xpure (.fld 2) [(.pointer (some ⟨H.length, 0, none⟩))]) ⟨fun v13 =>
 @bindO (xload none H6 [v13]) ⟨fun v14 =>
 @bindO (xpure .lenS [v14]) ⟨fun v15 =>
 @bindO (xpure .min2 [v15, (nv 12)]) ⟨fun v16 =>
 @bindO (xpure .max2 [(nv 1), v16]) ⟨fun v17 =>
 @bindO (xbin .lss 0 i5 v17) ⟨fun v18 =>
 @condK v18 ⟨fun q => if q = true then @bindL (xfill [] [] []) ⟨fun cv21 => @letH (H6 ++ [.cells cv21 3 none false]) ⟨fun H7 =>
 @loopV2 (.slice (some ⟨H6.length, 0, none⟩) 0 0) (nv 0) H7 ⟨fun row6 k7 H8 K2 =>
 @bindO (xpure (.ixA 2 1) [(.pointer (some ⟨H2.length, 0, none⟩)), (nv 1)]) ⟨fun v23 =>
 @bindO (xload none H8 [v23]) ⟨fun v24 =>
 @bindO (xbin .lss 0 k7 v24) ⟨fun v25 =>
 @condK v25 ⟨fun q => if q = true then @joinV1 (fun J3 => @bindO (xpure (.fld 2) [(.pointer (some ⟨H.length, 0, none⟩))]) ⟨fun v29 =>
 @bindO (xload none H8 [v29]) ⟨fun v30 =>
 @bindO (xpure .lenS [v30]) ⟨fun v31 =>
 @bindO (xbin .lss 0 i5 v31) ⟨fun v32 =>
 @guardJ (asB v32) (fun J4 => J4 k7 H8) H8 ⟨fun v34 H9 =>
 @guardJ (asB v32) (fun J5 => @bindO (xpure (.fld 2) [(.pointer (some ⟨H.length, 0, none⟩))]) ⟨fun v35 =>
 J5 v35 H9⟩) H9 ⟨fun v35a H10 =>
 @guardJ (asB v32) (fun J6 => @bindO (xload none H10 [v35a]) ⟨fun v36 =>
 J6 v36 H10⟩) H10 ⟨fun v36a H11 =>
 @guardJ (asB v32) (fun J7 => J7 i5 H11) H11 ⟨fun v37 H12 =>
 @guardJ (asB v32) (fun J8 => @bindO (xpure (.ixS 1) [v36a, v37]) ⟨fun v38 =>
 J8 v38 H12⟩) H12 ⟨fun v38a H13 =>
 @guardJ (asB v32) (fun J9 => @bindO (xload none H13 [v38a]) ⟨fun v39 =>
 J9 v39 H13⟩) H13 ⟨fun v39a H14 =>
 @guardJ (asB v32) (fun J10 => @bindO (xpure .lenS [v39a]) ⟨fun v40 =>
 J10 v40 H14⟩) H14 ⟨fun v40a H15 =>
 @guardJ (asB v32) (fun J11 => @bindO (xbin .lss 0 v34 v40a) ⟨fun v41 =>
 J11 v41 H15⟩) H15 ⟨fun v41a H16 =>
 @pickK v32 v41a (.bool false) ⟨fun v42 =>
 @condK v42 ⟨fun q => if q = true then @bindO (xpure (.fld 2) [(.pointer (some ⟨H.length, 0, none⟩))]) ⟨fun v43 =>
 @bindO (xload none H16 [v43]) ⟨fun v44 =>
 @bindO (xpure (.ixS 1) [v44, i5]) ⟨fun v46 =>
 @bindO (xload none H16 [v46]) ⟨fun v47 =>
 @bindO (xpure (.ixS 1) [v47, k7]) ⟨fun v49 =>
 @bindO (xload none H16 [v49]) ⟨fun v50 =>
 @bindO (xpure (.conv .i64) [v50]) ⟨fun v51 =>
 @bindO (xpure (.ixA 2 1) [(.pointer (some ⟨H2.length, 0, none⟩)), (nv 0)]) ⟨fun v52 =>
 @bindO (xload none H16 [v52]) ⟨fun v53 =>
 @bindO (xbin .rem 0 v51 v53) ⟨fun v54 =>
 J3 v54 H16⟩⟩⟩⟩⟩⟩⟩⟩⟩⟩ else
 J3 (nv 0) H16⟩⟩⟩⟩⟩⟩⟩⟩⟩⟩⟩⟩⟩⟩) ⟨fun c8 H17 =>
 @bindL (xfill [(nv 0)] [(0, 1)] [c8]) ⟨fun cv57 => @letH (H17 ++ [.cells cv57 3 none false]) ⟨fun H18 =>
 @bindP (xact (.app 3 1 8) H18 [row6, (.slice (some ⟨H17.length, 0, none⟩) 1 1)]) ⟨fun v58 H19 =>
 @bindO (xbin .add 0 k7 (nv 1)) ⟨fun v27 =>
 K2 v58 v27 H19⟩⟩⟩⟩⟩ else
 @bindL (xfill [(.slice none 0 0)] [(0, 1)] [row6]) ⟨fun cv61 => @letH (H8 ++ [.cells cv61 26 none false]) ⟨fun H20 =>
 @bindP (xact (.app 26 1 24) H20 [out4, (.slice (some ⟨H8.length, 0, none⟩) 1 1)]) ⟨fun v62 H21 =>
 @bindO (xbin .add 0 i5 (nv 1)) ⟨fun v20 =>
 K1 v62 v20 H21⟩⟩⟩⟩⟩⟩⟩⟩⟩⟩⟩ else
 R out4 H6⟩⟩⟩⟩⟩⟩⟩⟩⟩⟩⟩⟩⟩⟩⟩
theorem g15_of {x0 : Value} {H : AH} {R : Value → AH → Prop} (h : g15 x0 H R) : FN Try.prog 15 [x0] H R :=
  FN.of_XD mixed xd15_ok (by kernel_rfl) (Nat.le_of_ble_eq_true rfl) (cast (by kernel_rfl) h)
end Go.Sim
