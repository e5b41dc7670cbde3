/- Part of the proof: ZMoL. -/
import Derived.Test.YtbfpepbfpebmmaaGreatMDimShSToXfS
import Derived.Test.YtbfpepbfpebmmaaGreatMDimShD
import Derived.Test.YtbfpepbfpebmmaaGreatMDimZShMixToZPfFieldI
import Derived.KernelRfl
set_option linter.all false
set_option maxRecDepth 100000
namespace Go.Sim
open Go Go.Proofs
local instance coZMoL:Coe AH Value:=⟨fun H=>.pointer (some ⟨H.length,0,none⟩)⟩
def g6 (x0 y1 z2:Value) (H:AH) (R:Value→AH→Prop):Prop:=
 @letH (H++[.cells (cellsL x0) 24 none false]) ⟨fun H1 =>
 @letH (H1++[.cells (cellsL y1) 24 none false]) ⟨fun H2 =>
 @letH (H2++[.cells (cellsL z2) 25 none false]) ⟨fun H3 =>
 @cG 11 [] H3 ⟨fun v27 H4 =>
 @bindO (eun .not v27) ⟨fun v29 =>
 @condK v29 ⟨fun q=>if q=true then R (.bool false) H4 else
 @bindO (xload (some 4) H4 [H]) ⟨fun v30 =>
 @cG 12 [v30] H4 ⟨fun v31 H5 =>
 @letH (H5++[.cells [nv 0,nv 0,.slice none 0 0] 29 none false]) ⟨fun H6 =>
 @bindP (xact (.st 3) H6 [H5,v31]) ⟨fun _v H7 =>
 @bindO (xload (some 4) H7 [H1]) ⟨fun v32 =>
 @cG 12 [v32] H7 ⟨fun v33 H8 =>
 @letH (H8++[.cells [nv 0,nv 0,.slice none 0 0] 29 none false]) ⟨fun H9 =>
 @bindP (xact (.st 3) H9 [H8,v33]) ⟨fun _v H10 =>
 @bindO (xpure (.fld 2) [H5]) ⟨fun v34 =>
 @bindO (xload none H10 [v34]) ⟨fun v35 =>
 @bindO (xpure .lenS [v35]) ⟨fun v36 =>
 @bindO (xload (some 3) H10 [H5]) ⟨fun v37 =>
 @cG 16 [v37] H10 ⟨fun v38 H11 =>
 @letH (H11++[.cells [nv 0,nv 0,.slice none 0 0,nv 0] 37 none false]) ⟨fun H12 =>
 @bindP (xact (.st 4) H12 [H11,v38]) ⟨fun _v H13 =>
 @bindO (xload (some 3) H13 [H5]) ⟨fun v39 =>
 @bindO (xpure (.fld 1) [H5]) ⟨fun v40 =>
 @bindO (xload none H13 [v40]) ⟨fun v41 =>
 @bindO (xload (some 6) H13 [H2]) ⟨fun v42 =>
 @letH (H13++[.cells [nv 0,nv 0,.slice none 0 0,nv 0] 37 none false]) ⟨fun H14 =>
 @cG 14 [v42] H14 ⟨fun v43 H15 =>
 (chkX [2,0] (⟨2,none,[v40],v41⟩ :: (⟨0,(some 3),[H5],v39⟩ :: [])) H15∧@cG 13 [v41,v43] H15 ⟨fun v44 H16 =>
 (chkX [0] (⟨2,none,[v40],v41⟩ :: (⟨0,(some 3),[H5],v39⟩ :: [])) H16∧@cG 30 [v39,v44] H16 ⟨fun v45 H17 =>
 @bindP (xact (.st 4) H17 [H13,v45]) ⟨fun _v H18 =>
 @bindO (xpure (.fld 3) [H11]) ⟨fun v46 =>
 @bindO (xload none H18 [v46]) ⟨fun v47 =>
 @bindO (xbin .neq 0 v47 (nv 0)) ⟨fun v48 =>
 @guardJ (asNB v48) (fun J1=>@bindO (xpure (.fld 0) [H11]) ⟨fun v50 =>
 J1 v50 H18⟩) H18 ⟨fun v50a H19 =>
 @guardJ (asNB v48) (fun J2=>@bindO (xload (some 3) H19 [v50a]) ⟨fun v51 =>
 J2 v51 H19⟩) H19 ⟨fun v51a H20 =>
 @guardJ (asNB v48) (fun J3=>@cG 38 [v51a] H20 ⟨fun v52 H21 =>
 J3 v52 H21⟩) H20 ⟨fun v52a H22 =>
 @guardJ (asNB v48) (fun J4=>@bindO (eun .not v52a) ⟨fun v53 =>
 J4 v53 H22⟩) H22 ⟨fun v53a H23 =>
 @pickK v48 (.bool true) v53a ⟨fun v54 =>
 @guardJ (asNB v54) (fun J5=>@bindO (xpure (.fld 0) [H11]) ⟨fun v56 =>
 J5 v56 H23⟩) H23 ⟨fun v56a H24 =>
 @guardJ (asNB v54) (fun J6=>@bindO (xpure (.fld 2) [v56a]) ⟨fun v57 =>
 J6 v57 H24⟩) H24 ⟨fun v57a H25 =>
 @guardJ (asNB v54) (fun J7=>@bindO (xload none H25 [v57a]) ⟨fun v58 =>
 J7 v58 H25⟩) H25 ⟨fun v58a H26 =>
 @guardJ (asNB v54) (fun J8=>@bindO (xpure .lenS [v58a]) ⟨fun v59 =>
 J8 v59 H26⟩) H26 ⟨fun v59a H27 =>
 @guardJ (asNB v54) (fun J9=>J9 v36 H27) H27 ⟨fun v60 H28 =>
 @guardJ (asNB v54) (fun J10=>@bindO (xbin .neq 0 v59a v60) ⟨fun v61 =>
 J10 v61 H28⟩) H28 ⟨fun v61a H29 =>
 @pickK v54 (.bool true) v61a ⟨fun v62 =>
 @guardJ (asNB v62) (fun J11=>@bindO (xpure (.fld 0) [H11]) ⟨fun v64 =>
 J11 v64 H29⟩) H29 ⟨fun v64a H30 =>
 @guardJ (asNB v62) (fun J12=>@bindO (xpure (.fld 1) [v64a]) ⟨fun v65 =>
 J12 v65 H30⟩) H30 ⟨fun v65a H31 =>
 @guardJ (asNB v62) (fun J13=>@bindO (xload none H31 [v65a]) ⟨fun v66 =>
 J13 v66 H31⟩) H31 ⟨fun v66a H32 =>
 @guardJ (asNB v62) (fun J14=>@bindO (xpure (.fld 1) [H5]) ⟨fun v67 =>
 J14 v67 H32⟩) H32 ⟨fun v67a H33 =>
 @guardJ (asNB v62) (fun J15=>@bindO (xload none H33 [v67a]) ⟨fun v68 =>
 J15 v68 H33⟩) H33 ⟨fun v68a H34 =>
 @guardJ (asNB v62) (fun J16=>@bindO (xbin .add 0 v68a (nv 1)) ⟨fun v69 =>
 J16 v69 H34⟩) H34 ⟨fun v69a H35 =>
 @guardJ (asNB v62) (fun J17=>@bindO (xbin .neq 0 v66a v69a) ⟨fun v70 =>
 J17 v70 H35⟩) H35 ⟨fun v70a H36 =>
 @pickK v62 (.bool true) v70a ⟨fun v71 =>
 @guardJ (asNB v71) (fun J18=>@bindO (xpure (.fld 3) [H13]) ⟨fun v73 =>
 J18 v73 H36⟩) H36 ⟨fun v73a H37 =>
 @guardJ (asNB v71) (fun J19=>@bindO (xload none H37 [v73a]) ⟨fun v74 =>
 J19 v74 H37⟩) H37 ⟨fun v74a H38 =>
 @guardJ (asNB v71) (fun J20=>@bindO (xbin .neq 0 v74a (nv 0)) ⟨fun v75 =>
 J20 v75 H38⟩) H38 ⟨fun v75a H39 =>
 @pickK v71 (.bool true) v75a ⟨fun v76 =>
 @guardJ (asNB v76) (fun J21=>@bindO (xpure (.fld 0) [H13]) ⟨fun v78 =>
 J21 v78 H39⟩) H39 ⟨fun v78a H40 =>
 @guardJ (asNB v76) (fun J22=>@bindO (xload (some 3) H40 [v78a]) ⟨fun v79 =>
 J22 v79 H40⟩) H40 ⟨fun v79a H41 =>
 @guardJ (asNB v76) (fun J23=>@cG 38 [v79a] H41 ⟨fun v80 H42 =>
 J23 v80 H42⟩) H41 ⟨fun v80a H43 =>
 @guardJ (asNB v76) (fun J24=>@bindO (eun .not v80a) ⟨fun v81 =>
 J24 v81 H43⟩) H43 ⟨fun v81a H44 =>
 @pickK v76 (.bool true) v81a ⟨fun v82 =>
 @guardJ (asNB v82) (fun J25=>@bindO (xpure (.fld 0) [H13]) ⟨fun v84 =>
 J25 v84 H44⟩) H44 ⟨fun v84a H45 =>
 @guardJ (asNB v82) (fun J26=>@bindO (xpure (.fld 2) [v84a]) ⟨fun v85 =>
 J26 v85 H45⟩) H45 ⟨fun v85a H46 =>
 @guardJ (asNB v82) (fun J27=>@bindO (xload none H46 [v85a]) ⟨fun v86 =>
 J27 v86 H46⟩) H46 ⟨fun v86a H47 =>
 @guardJ (asNB v82) (fun J28=>@bindO (xpure .lenS [v86a]) ⟨fun v87 =>
 J28 v87 H47⟩) H47 ⟨fun v87a H48 =>
 @guardJ (asNB v82) (fun J29=>J29 v36 H48) H48 ⟨fun v88 H49 =>
 @guardJ (asNB v82) (fun J30=>@bindO (xbin .neq 0 v87a v88) ⟨fun v89 =>
 J30 v89 H49⟩) H49 ⟨fun v89a H50 =>
 @pickK v82 (.bool true) v89a ⟨fun v90 =>
 @guardJ (asNB v90) (fun J31=>@bindO (xpure (.fld 0) [H13]) ⟨fun v92 =>
 J31 v92 H50⟩) H50 ⟨fun v92a H51 =>
 @guardJ (asNB v90) (fun J32=>@bindO (xpure (.fld 1) [v92a]) ⟨fun v93 =>
 J32 v93 H51⟩) H51 ⟨fun v93a H52 =>
 @guardJ (asNB v90) (fun J33=>@bindO (xload none H52 [v93a]) ⟨fun v94 =>
 J33 v94 H52⟩) H52 ⟨fun v94a H53 =>
 @guardJ (asNB v90) (fun J34=>@bindO (xpure (.fld 1) [H5]) ⟨fun v95 =>
 J34 v95 H53⟩) H53 ⟨fun v95a H54 =>
 @guardJ (asNB v90) (fun J35=>@bindO (xload none H54 [v95a]) ⟨fun v96 =>
 J35 v96 H54⟩) H54 ⟨fun v96a H55 =>
 @guardJ (asNB v90) (fun J36=>@bindO (xbin .neq 0 v94a v96a) ⟨fun v97 =>
 J36 v97 H55⟩) H55 ⟨fun v97a H56 =>
 @pickK v90 (.bool true) v97a ⟨fun v98 =>
 @condK v98 ⟨fun q=>if q=true then R (.bool false) H56 else
 @bindO (xload (some 3) H56 [H5]) ⟨fun v99 =>
 @cG 39 [v99] H56 ⟨fun v100 H57 =>
 @joinV0 (fun J37=>@bindO (xpure (.fld 1) [H5]) ⟨fun v101 =>
 @bindO (xload none H57 [v101]) ⟨fun v102 =>
 @bindO (xbin .gtr 0 v102 (nv 1)) ⟨fun v103 =>
 @condK v103 ⟨fun q=>if q=true then @bindO (xpure (.ixA 6 1) [H2,nv 0]) ⟨fun v104 =>
 @bindO (xload none H57 [v104]) ⟨fun v105 =>
 @bindO (xpure (.conv .i64) [v105]) ⟨fun v106 =>
 @bindO (xpure (.fld 1) [H5]) ⟨fun v107 =>
 @bindO (xload none H57 [v107]) ⟨fun v108 =>
 @bindO (xbin .rem 0 v106 v108) ⟨fun v109 =>
 @loopV3 (.bool false) (.bool false) (nv 0) H57 ⟨fun unit15 v16 m17 H58 K38 =>
 @bindO (xpure .lenS [v100]) ⟨fun v112 =>
 @bindO (xbin .lss 0 m17 v112) ⟨fun v113 =>
 @condK v113 ⟨fun q=>if q=true then @guardJ (asNB v16) (fun J39=>J39 v100 H58) H58 ⟨fun v118 H59 =>
 @guardJ (asNB v16) (fun J40=>J40 m17 H59) H59 ⟨fun v119 H60 =>
 @guardJ (asNB v16) (fun J41=>@bindO (xpure (.ixS 1) [v118,v119]) ⟨fun v120 =>
 J41 v120 H60⟩) H60 ⟨fun v120a H61 =>
 @guardJ (asNB v16) (fun J42=>@bindO (xload none H61 [v120a]) ⟨fun v121 =>
 J42 v121 H61⟩) H61 ⟨fun v121a H62 =>
 @guardJ (asNB v16) (fun J43=>J43 v109 H62) H62 ⟨fun v122 H63 =>
 @guardJ (asNB v16) (fun J44=>@bindO (xpure (.ixS 1) [v121a,v122]) ⟨fun v123 =>
 J44 v123 H63⟩) H63 ⟨fun v123a H64 =>
 @guardJ (asNB v16) (fun J45=>@bindO (xload none H64 [v123a]) ⟨fun v124 =>
 J45 v124 H64⟩) H64 ⟨fun v124a H65 =>
 @guardJ (asNB v16) (fun J46=>@bindO (xbin .neq 0 v124a (nv 0)) ⟨fun v125 =>
 J46 v125 H65⟩) H65 ⟨fun v125a H66 =>
 @pickK v16 (.bool true) v125a ⟨fun v126 =>
 @guardJ (asNB unit15) (fun J47=>J47 v100 H66) H66 ⟨fun v129 H67 =>
 @guardJ (asNB unit15) (fun J48=>J48 m17 H67) H67 ⟨fun v130 H68 =>
 @guardJ (asNB unit15) (fun J49=>@bindO (xpure (.ixS 1) [v129,v130]) ⟨fun v131 =>
 J49 v131 H68⟩) H68 ⟨fun v131a H69 =>
 @guardJ (asNB unit15) (fun J50=>@bindO (xload none H69 [v131a]) ⟨fun v132 =>
 J50 v132 H69⟩) H69 ⟨fun v132a H70 =>
 @guardJ (asNB unit15) (fun J51=>@cG 40 [v132a] H70 ⟨fun v133 H71 =>
 J51 v133 H71⟩) H70 ⟨fun v133a H72 =>
 @guardJ (asNB unit15) (fun J52=>@bindO (xbin .eql 0 v133a (nv 1)) ⟨fun v134 =>
 J52 v134 H72⟩) H72 ⟨fun v134a H73 =>
 @guardJ (asNB unit15) (fun J53=>J53 v134a H73) H73 ⟨fun v135 H74 =>
 @guardJ (asB v135) (fun J54=>J54 v100 H74) H74 ⟨fun v136 H75 =>
 @guardJ (asB v135) (fun J55=>J55 m17 H75) H75 ⟨fun v137 H76 =>
 @guardJ (asB v135) (fun J56=>@bindO (xpure (.ixS 1) [v136,v137]) ⟨fun v138 =>
 J56 v138 H76⟩) H76 ⟨fun v138a H77 =>
 @guardJ (asB v135) (fun J57=>@bindO (xload none H77 [v138a]) ⟨fun v139 =>
 J57 v139 H77⟩) H77 ⟨fun v139a H78 =>
 @guardJ (asB v135) (fun J58=>J58 v109 H78) H78 ⟨fun v140 H79 =>
 @guardJ (asB v135) (fun J59=>@bindO (xpure (.ixS 1) [v139a,v140]) ⟨fun v141 =>
 J59 v141 H79⟩) H79 ⟨fun v141a H80 =>
 @guardJ (asB v135) (fun J60=>@bindO (xload none H80 [v141a]) ⟨fun v142 =>
 J60 v142 H80⟩) H80 ⟨fun v142a H81 =>
 @guardJ (asB v135) (fun J61=>@bindO (xbin .neq 0 v142a (nv 0)) ⟨fun v143 =>
 J61 v143 H81⟩) H81 ⟨fun v143a H82 =>
 @guardJ (asNB unit15) (fun J62=>@pickK v135 v143a (.bool false) ⟨fun v144 =>
 J62 v144 H82⟩) H82 ⟨fun v144a H83 =>
 @pickK unit15 (.bool true) v144a ⟨fun v145 =>
 @bindO (xbin .add 0 m17 (nv 1)) ⟨fun v115 =>
 K38 v145 v126 v115 H83⟩⟩⟩⟩⟩⟩⟩⟩⟩⟩⟩⟩⟩⟩⟩⟩⟩⟩⟩⟩⟩⟩⟩⟩⟩⟩⟩ else
 @bindO (xload (some 3) H58 [H5]) ⟨fun v146 =>
 @cG 18 [v146,v109] H58 ⟨fun v148 H84 =>
 @letH (H84++[.cells [nv 0,nv 0,.slice none 0 0,nv 0] 37 none false]) ⟨fun H85 =>
 @bindP (xact (.st 4) H85 [H84,v148]) ⟨fun _v H86 =>
 @bindO (xload (some 3) H86 [H5]) ⟨fun v149 =>
 @cG 20 [v149,v109] H86 ⟨fun v151 H87 =>
 @letH (H87++[.cells [nv 0,nv 0,.slice none 0 0,nv 0] 37 none false]) ⟨fun H88 =>
 @bindP (xact (.st 4) H88 [H87,v151]) ⟨fun _v H89 =>
 @bindO (xpure (.fld 3) [H84]) ⟨fun v152 =>
 @bindO (xload none H89 [v152]) ⟨fun v153 =>
 @bindO (xbin .neq 0 v153 (nv 0)) ⟨fun v154 =>
 @guardJ (asNB v154) (fun J63=>@bindO (xpure (.fld 3) [H87]) ⟨fun v156 =>
 J63 v156 H89⟩) H89 ⟨fun v156a H90 =>
 @guardJ (asNB v154) (fun J64=>@bindO (xload none H90 [v156a]) ⟨fun v157 =>
 J64 v157 H90⟩) H90 ⟨fun v157a H91 =>
 @guardJ (asNB v154) (fun J65=>@bindO (xbin .neq 0 v157a (nv 0)) ⟨fun v158 =>
 J65 v158 H91⟩) H91 ⟨fun v158a H92 =>
 @pickK v154 (.bool true) v158a ⟨fun v159 =>
 @guardJ (asNB v159) (fun J66=>@bindO (xpure (.fld 0) [H84]) ⟨fun v161 =>
 J66 v161 H92⟩) H92 ⟨fun v161a H93 =>
 @guardJ (asNB v159) (fun J67=>@bindO (xload (some 3) H93 [v161a]) ⟨fun v162 =>
 J67 v162 H93⟩) H93 ⟨fun v162a H94 =>
 @guardJ (asNB v159) (fun J68=>@cG 38 [v162a] H94 ⟨fun v163 H95 =>
 J68 v163 H95⟩) H94 ⟨fun v163a H96 =>
 @guardJ (asNB v159) (fun J69=>@bindO (eun .not v163a) ⟨fun v164 =>
 J69 v164 H96⟩) H96 ⟨fun v164a H97 =>
 @pickK v159 (.bool true) v164a ⟨fun v165 =>
 @guardJ (asNB v165) (fun J70=>@bindO (xpure (.fld 0) [H87]) ⟨fun v167 =>
 J70 v167 H97⟩) H97 ⟨fun v167a H98 =>
 @guardJ (asNB v165) (fun J71=>@bindO (xload (some 3) H98 [v167a]) ⟨fun v168 =>
 J71 v168 H98⟩) H98 ⟨fun v168a H99 =>
 @guardJ (asNB v165) (fun J72=>@cG 38 [v168a] H99 ⟨fun v169 H100 =>
 J72 v169 H100⟩) H99 ⟨fun v169a H101 =>
 @guardJ (asNB v165) (fun J73=>@bindO (eun .not v169a) ⟨fun v170 =>
 J73 v170 H101⟩) H101 ⟨fun v170a H102 =>
 @pickK v165 (.bool true) v170a ⟨fun v171 =>
 @guardJ (asNB v171) (fun J74=>@bindO (xpure (.fld 0) [H84]) ⟨fun v173 =>
 J74 v173 H102⟩) H102 ⟨fun v173a H103 =>
 @guardJ (asNB v171) (fun J75=>@bindO (xpure (.fld 1) [v173a]) ⟨fun v174 =>
 J75 v174 H103⟩) H103 ⟨fun v174a H104 =>
 @guardJ (asNB v171) (fun J76=>@bindO (xload none H104 [v174a]) ⟨fun v175 =>
 J76 v175 H104⟩) H104 ⟨fun v175a H105 =>
 @guardJ (asNB v171) (fun J77=>@bindO (xpure (.fld 1) [H5]) ⟨fun v176 =>
 J77 v176 H105⟩) H105 ⟨fun v176a H106 =>
 @guardJ (asNB v171) (fun J78=>@bindO (xload none H106 [v176a]) ⟨fun v177 =>
 J78 v177 H106⟩) H106 ⟨fun v177a H107 =>
 @guardJ (asNB v171) (fun J79=>@bindO (xbin .sub 0 v177a (nv 1)) ⟨fun v178 =>
 J79 v178 H107⟩) H107 ⟨fun v178a H108 =>
 @guardJ (asNB v171) (fun J80=>@bindO (xbin .neq 0 v175a v178a) ⟨fun v179 =>
 J80 v179 H108⟩) H108 ⟨fun v179a H109 =>
 @pickK v171 (.bool true) v179a ⟨fun v180 =>
 @guardJ (asNB v180) (fun J81=>@bindO (xpure (.fld 0) [H87]) ⟨fun v182 =>
 J81 v182 H109⟩) H109 ⟨fun v182a H110 =>
 @guardJ (asNB v180) (fun J82=>@bindO (xpure (.fld 1) [v182a]) ⟨fun v183 =>
 J82 v183 H110⟩) H110 ⟨fun v183a H111 =>
 @guardJ (asNB v180) (fun J83=>@bindO (xload none H111 [v183a]) ⟨fun v184 =>
 J83 v184 H111⟩) H111 ⟨fun v184a H112 =>
 @guardJ (asNB v180) (fun J84=>@bindO (xpure (.fld 1) [H5]) ⟨fun v185 =>
 J84 v185 H112⟩) H112 ⟨fun v185a H113 =>
 @guardJ (asNB v180) (fun J85=>@bindO (xload none H113 [v185a]) ⟨fun v186 =>
 J85 v186 H113⟩) H113 ⟨fun v186a H114 =>
 @guardJ (asNB v180) (fun J86=>@bindO (xbin .sub 0 v186a (nv 1)) ⟨fun v187 =>
 J86 v187 H114⟩) H114 ⟨fun v187a H115 =>
 @guardJ (asNB v180) (fun J87=>@bindO (xbin .neq 0 v184a v187a) ⟨fun v188 =>
 J87 v188 H115⟩) H115 ⟨fun v188a H116 =>
 @pickK v180 (.bool true) v188a ⟨fun v189 =>
 @guardJ (asNB v189) (fun J88=>@bindO (xpure (.fld 0) [H84]) ⟨fun v191 =>
 J88 v191 H116⟩) H116 ⟨fun v191a H117 =>
 @guardJ (asNB v189) (fun J89=>@bindO (xpure (.fld 2) [v191a]) ⟨fun v192 =>
 J89 v192 H117⟩) H117 ⟨fun v192a H118 =>
 @guardJ (asNB v189) (fun J90=>@bindO (xload none H118 [v192a]) ⟨fun v193 =>
 J90 v193 H118⟩) H118 ⟨fun v193a H119 =>
 @guardJ (asNB v189) (fun J91=>@bindO (xpure .lenS [v193a]) ⟨fun v194 =>
 J91 v194 H119⟩) H119 ⟨fun v194a H120 =>
 @guardJ (asNB v189) (fun J92=>J92 v36 H120) H120 ⟨fun v195 H121 =>
 @guardJ (asNB v189) (fun J93=>@bindO (xbin .sub 0 v195 (nv 1)) ⟨fun v196 =>
 J93 v196 H121⟩) H121 ⟨fun v196a H122 =>
 @guardJ (asNB v189) (fun J94=>@bindO (xbin .eql 0 v194a v196a) ⟨fun v197 =>
 J94 v197 H122⟩) H122 ⟨fun v197a H123 =>
 @guardJ (asNB v189) (fun J95=>J95 unit15 H123) H123 ⟨fun v198 H124 =>
 @guardJ (asNB v189) (fun J96=>@bindO (xbin .neq 1 v197a v198) ⟨fun v199 =>
 J96 v199 H124⟩) H124 ⟨fun v199a H125 =>
 @pickK v189 (.bool true) v199a ⟨fun v200 =>
 @guardJ (asNB v200) (fun J97=>@bindO (xpure (.fld 0) [H84]) ⟨fun v202 =>
 J97 v202 H125⟩) H125 ⟨fun v202a H126 =>
 @guardJ (asNB v200) (fun J98=>@bindO (xpure (.fld 2) [v202a]) ⟨fun v203 =>
 J98 v203 H126⟩) H126 ⟨fun v203a H127 =>
 @guardJ (asNB v200) (fun J99=>@bindO (xload none H127 [v203a]) ⟨fun v204 =>
 J99 v204 H127⟩) H127 ⟨fun v204a H128 =>
 @guardJ (asNB v200) (fun J100=>@bindO (xpure .lenS [v204a]) ⟨fun v205 =>
 J100 v205 H128⟩) H128 ⟨fun v205a H129 =>
 @guardJ (asNB v200) (fun J101=>J101 v36 H129) H129 ⟨fun v206 H130 =>
 @guardJ (asNB v200) (fun J102=>@bindO (xbin .eql 0 v205a v206) ⟨fun v207 =>
 J102 v207 H130⟩) H130 ⟨fun v207a H131 =>
 @guardJ (asNB v200) (fun J103=>J103 unit15 H131) H131 ⟨fun v208 H132 =>
 @guardJ (asNB v200) (fun J104=>@bindO (xbin .eql 1 v207a v208) ⟨fun v209 =>
 J104 v209 H132⟩) H132 ⟨fun v209a H133 =>
 @pickK v200 (.bool true) v209a ⟨fun v210 =>
 @guardJ (asNB v210) (fun J105=>@bindO (xpure (.fld 0) [H87]) ⟨fun v212 =>
 J105 v212 H133⟩) H133 ⟨fun v212a H134 =>
 @guardJ (asNB v210) (fun J106=>@bindO (xpure (.fld 2) [v212a]) ⟨fun v213 =>
 J106 v213 H134⟩) H134 ⟨fun v213a H135 =>
 @guardJ (asNB v210) (fun J107=>@bindO (xload none H135 [v213a]) ⟨fun v214 =>
 J107 v214 H135⟩) H135 ⟨fun v214a H136 =>
 @guardJ (asNB v210) (fun J108=>@bindO (xpure .lenS [v214a]) ⟨fun v215 =>
 J108 v215 H136⟩) H136 ⟨fun v215a H137 =>
 @guardJ (asNB v210) (fun J109=>J109 v36 H137) H137 ⟨fun v216 H138 =>
 @guardJ (asNB v210) (fun J110=>@bindO (xbin .sub 0 v216 (nv 1)) ⟨fun v217 =>
 J110 v217 H138⟩) H138 ⟨fun v217a H139 =>
 @guardJ (asNB v210) (fun J111=>@bindO (xbin .eql 0 v215a v217a) ⟨fun v218 =>
 J111 v218 H139⟩) H139 ⟨fun v218a H140 =>
 @guardJ (asNB v210) (fun J112=>J112 v16 H140) H140 ⟨fun v219 H141 =>
 @guardJ (asNB v210) (fun J113=>@bindO (xbin .neq 1 v218a v219) ⟨fun v220 =>
 J113 v220 H141⟩) H141 ⟨fun v220a H142 =>
 @pickK v210 (.bool true) v220a ⟨fun v221 =>
 @guardJ (asNB v221) (fun J114=>@bindO (xpure (.fld 0) [H87]) ⟨fun v223 =>
 J114 v223 H142⟩) H142 ⟨fun v223a H143 =>
 @guardJ (asNB v221) (fun J115=>@bindO (xpure (.fld 2) [v223a]) ⟨fun v224 =>
 J115 v224 H143⟩) H143 ⟨fun v224a H144 =>
 @guardJ (asNB v221) (fun J116=>@bindO (xload none H144 [v224a]) ⟨fun v225 =>
 J116 v225 H144⟩) H144 ⟨fun v225a H145 =>
 @guardJ (asNB v221) (fun J117=>@bindO (xpure .lenS [v225a]) ⟨fun v226 =>
 J117 v226 H145⟩) H145 ⟨fun v226a H146 =>
 @guardJ (asNB v221) (fun J118=>J118 v36 H146) H146 ⟨fun v227 H147 =>
 @guardJ (asNB v221) (fun J119=>@bindO (xbin .eql 0 v226a v227) ⟨fun v228 =>
 J119 v228 H147⟩) H147 ⟨fun v228a H148 =>
 @guardJ (asNB v221) (fun J120=>J120 v16 H148) H148 ⟨fun v229 H149 =>
 @guardJ (asNB v221) (fun J121=>@bindO (xbin .eql 1 v228a v229) ⟨fun v230 =>
 J121 v230 H149⟩) H149 ⟨fun v230a H150 =>
 @pickK v221 (.bool true) v230a ⟨fun v231 =>
 @condK v231 ⟨fun q=>if q=true then R (.bool false) H150 else
 J37 H150⟩⟩⟩⟩⟩⟩⟩⟩⟩⟩⟩⟩⟩⟩⟩⟩⟩⟩⟩⟩⟩⟩⟩⟩⟩⟩⟩⟩⟩⟩⟩⟩⟩⟩⟩⟩⟩⟩⟩⟩⟩⟩⟩⟩⟩⟩⟩⟩⟩⟩⟩⟩⟩⟩⟩⟩⟩⟩⟩⟩⟩⟩⟩⟩⟩⟩⟩⟩⟩⟩⟩⟩⟩⟩⟩⟩⟩⟩⟩⟩⟩⟩⟩⟩⟩⟩⟩⟩⟩⟩ else
 J37 H57⟩⟩⟩⟩) ⟨fun H151 =>
 @joinV0 (fun J122=>@bindO (xpure (.fld 0) [H5]) ⟨fun v232 =>
 @bindO (xload none H151 [v232]) ⟨fun v233 =>
 @bindO (xbin .eql 0 v233 (nv 2)) ⟨fun v234 =>
 @condK v234 ⟨fun q=>if q=true then @loopV2 (.bool false) (nv 0) H151 ⟨fun odd20 m21 H152 K123 =>
 @bindO (xpure .lenS [v100]) ⟨fun v237 =>
 @bindO (xbin .lss 0 m21 v237) ⟨fun v238 =>
 @condK v238 ⟨fun q=>if q=true then @guardJ (asNB odd20) (fun J124=>J124 v100 H152) H152 ⟨fun v243 H153 =>
 @guardJ (asNB odd20) (fun J125=>J125 m21 H153) H153 ⟨fun v244 H154 =>
 @guardJ (asNB odd20) (fun J126=>@bindO (xpure (.ixS 1) [v243,v244]) ⟨fun v245 =>
 J126 v245 H154⟩) H154 ⟨fun v245a H155 =>
 @guardJ (asNB odd20) (fun J127=>@bindO (xload none H155 [v245a]) ⟨fun v246 =>
 J127 v246 H155⟩) H155 ⟨fun v246a H156 =>
 @guardJ (asNB odd20) (fun J128=>@cG 40 [v246a] H156 ⟨fun v247 H157 =>
 J128 v247 H157⟩) H156 ⟨fun v247a H158 =>
 @guardJ (asNB odd20) (fun J129=>@bindO (xbin .rem 0 v247a (nv 2)) ⟨fun v248 =>
 J129 v248 H158⟩) H158 ⟨fun v248a H159 =>
 @guardJ (asNB odd20) (fun J130=>@bindO (xbin .eql 0 v248a (nv 1)) ⟨fun v249 =>
 J130 v249 H159⟩) H159 ⟨fun v249a H160 =>
 @pickK odd20 (.bool true) v249a ⟨fun v250 =>
 @bindO (xbin .add 0 m21 (nv 1)) ⟨fun v240 =>
 K123 v250 v240 H160⟩⟩⟩⟩⟩⟩⟩⟩⟩ else
 @bindO (xload (some 3) H152 [H5]) ⟨fun v251 =>
 @cG 28 [v251] H152 ⟨fun v252 H161 =>
 @letH (H161++[.cells [nv 0,nv 0,.slice none 0 0,nv 0] 37 none false]) ⟨fun H162 =>
 @bindP (xact (.st 4) H162 [H161,v252]) ⟨fun _v H163 =>
 @bindO (xpure (.fld 3) [H161]) ⟨fun v253 =>
 @bindO (xload none H163 [v253]) ⟨fun v254 =>
 @bindO (xbin .neq 0 v254 (nv 0)) ⟨fun v255 =>
 @guardJ (asNB v255) (fun J131=>@bindO (xpure (.fld 0) [H161]) ⟨fun v257 =>
 J131 v257 H163⟩) H163 ⟨fun v257a H164 =>
 @guardJ (asNB v255) (fun J132=>@bindO (xload (some 3) H164 [v257a]) ⟨fun v258 =>
 J132 v258 H164⟩) H164 ⟨fun v258a H165 =>
 @guardJ (asNB v255) (fun J133=>@cG 38 [v258a] H165 ⟨fun v259 H166 =>
 J133 v259 H166⟩) H165 ⟨fun v259a H167 =>
 @guardJ (asNB v255) (fun J134=>@bindO (eun .not v259a) ⟨fun v260 =>
 J134 v260 H167⟩) H167 ⟨fun v260a H168 =>
 @pickK v255 (.bool true) v260a ⟨fun v261 =>
 @guardJ (asNB v261) (fun J135=>@bindO (xpure (.fld 0) [H161]) ⟨fun v263 =>
 J135 v263 H168⟩) H168 ⟨fun v263a H169 =>
 @guardJ (asNB v261) (fun J136=>@bindO (xpure (.fld 2) [v263a]) ⟨fun v264 =>
 J136 v264 H169⟩) H169 ⟨fun v264a H170 =>
 @guardJ (asNB v261) (fun J137=>@bindO (xload none H170 [v264a]) ⟨fun v265 =>
 J137 v265 H170⟩) H170 ⟨fun v265a H171 =>
 @guardJ (asNB v261) (fun J138=>@bindO (xpure .lenS [v265a]) ⟨fun v266 =>
 J138 v266 H171⟩) H171 ⟨fun v266a H172 =>
 @guardJ (asNB v261) (fun J139=>J139 v36 H172) H172 ⟨fun v267 H173 =>
 @guardJ (asNB v261) (fun J140=>@bindO (xbin .sub 0 v267 (nv 1)) ⟨fun v268 =>
 J140 v268 H173⟩) H173 ⟨fun v268a H174 =>
 @guardJ (asNB v261) (fun J141=>@bindO (xbin .eql 0 v266a v268a) ⟨fun v269 =>
 J141 v269 H174⟩) H174 ⟨fun v269a H175 =>
 @guardJ (asNB v261) (fun J142=>J142 odd20 H175) H175 ⟨fun v270 H176 =>
 @guardJ (asNB v261) (fun J143=>@bindO (xbin .neq 1 v269a v270) ⟨fun v271 =>
 J143 v271 H176⟩) H176 ⟨fun v271a H177 =>
 @pickK v261 (.bool true) v271a ⟨fun v272 =>
 @guardJ (asNB v272) (fun J144=>@bindO (xpure (.fld 0) [H161]) ⟨fun v274 =>
 J144 v274 H177⟩) H177 ⟨fun v274a H178 =>
 @guardJ (asNB v272) (fun J145=>@bindO (xpure (.fld 2) [v274a]) ⟨fun v275 =>
 J145 v275 H178⟩) H178 ⟨fun v275a H179 =>
 @guardJ (asNB v272) (fun J146=>@bindO (xload none H179 [v275a]) ⟨fun v276 =>
 J146 v276 H179⟩) H179 ⟨fun v276a H180 =>
 @guardJ (asNB v272) (fun J147=>@bindO (xpure .lenS [v276a]) ⟨fun v277 =>
 J147 v277 H180⟩) H180 ⟨fun v277a H181 =>
 @guardJ (asNB v272) (fun J148=>J148 v36 H181) H181 ⟨fun v278 H182 =>
 @guardJ (asNB v272) (fun J149=>@bindO (xbin .eql 0 v277a v278) ⟨fun v279 =>
 J149 v279 H182⟩) H182 ⟨fun v279a H183 =>
 @guardJ (asNB v272) (fun J150=>J150 odd20 H183) H183 ⟨fun v280 H184 =>
 @guardJ (asNB v272) (fun J151=>@bindO (xbin .eql 1 v279a v280) ⟨fun v281 =>
 J151 v281 H184⟩) H184 ⟨fun v281a H185 =>
 @pickK v272 (.bool true) v281a ⟨fun v282 =>
 @condK v282 ⟨fun q=>if q=true then R (.bool false) H185 else
 J122 H185⟩⟩⟩⟩⟩⟩⟩⟩⟩⟩⟩⟩⟩⟩⟩⟩⟩⟩⟩⟩⟩⟩⟩⟩⟩⟩⟩⟩⟩⟩⟩⟩⟩⟩⟩⟩ else
 J122 H151⟩⟩⟩⟩) ⟨fun H186 =>
 @bindO (xload (some 3) H186 [H5]) ⟨fun v283 =>
 @bindO (xload (some 3) H186 [H8]) ⟨fun v284 =>
 @cG 22 [v283,v284] H186 ⟨fun v285 H187 =>
 @letH (H187++[.cells [nv 0,nv 0,.slice none 0 0,nv 0] 37 none false]) ⟨fun H188 =>
 @bindP (xact (.st 4) H188 [H187,v285]) ⟨fun _v H189 =>
 @bindO (xload (some 3) H189 [H5]) ⟨fun v286 =>
 @bindO (xload (some 3) H189 [H8]) ⟨fun v287 =>
 @cG 24 [v286,v287] H189 ⟨fun v288 H190 =>
 @letH (H190++[.cells [nv 0,nv 0,.slice none 0 0,nv 0] 37 none false]) ⟨fun H191 =>
 @bindP (xact (.st 4) H191 [H190,v288]) ⟨fun _v H192 =>
 @bindO (xpure (.fld 3) [H187]) ⟨fun v289 =>
 @bindO (xload none H192 [v289]) ⟨fun v290 =>
 @bindO (xbin .eql 0 v290 (nv 0)) ⟨fun v291 =>
 @bindO (xpure (.fld 0) [H5]) ⟨fun v292 =>
 @bindO (xload none H192 [v292]) ⟨fun v293 =>
 @bindO (xpure (.fld 0) [H8]) ⟨fun v294 =>
 @bindO (xload none H192 [v294]) ⟨fun v295 =>
 @bindO (xbin .eql 0 v293 v295) ⟨fun v296 =>
 @bindO (xbin .neq 1 v291 v296) ⟨fun v297 =>
 @guardJ (asNB v297) (fun J152=>@bindO (xpure (.fld 3) [H187]) ⟨fun v299 =>
 J152 v299 H192⟩) H192 ⟨fun v299a H193 =>
 @guardJ (asNB v297) (fun J153=>@bindO (xload none H193 [v299a]) ⟨fun v300 =>
 J153 v300 H193⟩) H193 ⟨fun v300a H194 =>
 @guardJ (asNB v297) (fun J154=>@bindO (xbin .eql 0 v300a (nv 0)) ⟨fun v301 =>
 J154 v301 H194⟩) H194 ⟨fun v301a H195 =>
 @guardJ (asNB v297) (fun J155=>J155 v301a H195) H195 ⟨fun v302 H196 =>
 @guardJ (asB v302) (fun J156=>@bindO (xpure (.fld 0) [H187]) ⟨fun v303 =>
 J156 v303 H196⟩) H196 ⟨fun v303a H197 =>
 @guardJ (asB v302) (fun J157=>@bindO (xload (some 3) H197 [v303a]) ⟨fun v304 =>
 J157 v304 H197⟩) H197 ⟨fun v304a H198 =>
 @guardJ (asB v302) (fun J158=>@cG 38 [v304a] H198 ⟨fun v305 H199 =>
 J158 v305 H199⟩) H198 ⟨fun v305a H200 =>
 @guardJ (asB v302) (fun J159=>@bindO (eun .not v305a) ⟨fun v306 =>
 J159 v306 H200⟩) H200 ⟨fun v306a H201 =>
 @guardJ (asB v302) (fun J160=>J160 v306a H201) H201 ⟨fun v307 H202 =>
 @guardJ (asNB v307) (fun J161=>@bindO (xpure (.fld 0) [H187]) ⟨fun v308 =>
 J161 v308 H202⟩) H202 ⟨fun v308a H203 =>
 @guardJ (asNB v307) (fun J162=>@bindO (xpure (.fld 2) [v308a]) ⟨fun v309 =>
 J162 v309 H203⟩) H203 ⟨fun v309a H204 =>
 @guardJ (asNB v307) (fun J163=>@bindO (xload none H204 [v309a]) ⟨fun v310 =>
 J163 v310 H204⟩) H204 ⟨fun v310a H205 =>
 @guardJ (asNB v307) (fun J164=>@bindO (xpure .lenS [v310a]) ⟨fun v311 =>
 J164 v311 H205⟩) H205 ⟨fun v311a H206 =>
 @guardJ (asNB v307) (fun J165=>J165 v36 H206) H206 ⟨fun v312 H207 =>
 @guardJ (asNB v307) (fun J166=>@bindO (xpure (.fld 2) [H8]) ⟨fun v313 =>
 J166 v313 H207⟩) H207 ⟨fun v313a H208 =>
 @guardJ (asNB v307) (fun J167=>@bindO (xload none H208 [v313a]) ⟨fun v314 =>
 J167 v314 H208⟩) H208 ⟨fun v314a H209 =>
 @guardJ (asNB v307) (fun J168=>@bindO (xpure .lenS [v314a]) ⟨fun v315 =>
 J168 v315 H209⟩) H209 ⟨fun v315a H210 =>
 @guardJ (asNB v307) (fun J169=>@bindO (xbin .add 0 v312 v315a) ⟨fun v316 =>
 J169 v316 H210⟩) H210 ⟨fun v316a H211 =>
 @guardJ (asNB v307) (fun J170=>@bindO (xbin .neq 0 v311a v316a) ⟨fun v317 =>
 J170 v317 H211⟩) H211 ⟨fun v317a H212 =>
 @guardJ (asB v302) (fun J171=>@pickK v307 (.bool true) v317a ⟨fun v318 =>
 J171 v318 H212⟩) H212 ⟨fun v318a H213 =>
 @guardJ (asB v302) (fun J172=>J172 v318a H213) H213 ⟨fun v319 H214 =>
 @guardJ (asNB v319) (fun J173=>@bindO (xpure (.fld 0) [H187]) ⟨fun v320 =>
 J173 v320 H214⟩) H214 ⟨fun v320a H215 =>
 @guardJ (asNB v319) (fun J174=>@bindO (xpure (.fld 1) [v320a]) ⟨fun v321 =>
 J174 v321 H215⟩) H215 ⟨fun v321a H216 =>
 @guardJ (asNB v319) (fun J175=>@bindO (xload none H216 [v321a]) ⟨fun v322 =>
 J175 v322 H216⟩) H216 ⟨fun v322a H217 =>
 @guardJ (asNB v319) (fun J176=>@bindO (xpure (.fld 1) [H5]) ⟨fun v323 =>
 J176 v323 H217⟩) H217 ⟨fun v323a H218 =>
 @guardJ (asNB v319) (fun J177=>@bindO (xload none H218 [v323a]) ⟨fun v324 =>
 J177 v324 H218⟩) H218 ⟨fun v324a H219 =>
 @guardJ (asNB v319) (fun J178=>@bindO (xpure (.fld 1) [H8]) ⟨fun v325 =>
 J178 v325 H219⟩) H219 ⟨fun v325a H220 =>
 @guardJ (asNB v319) (fun J179=>@bindO (xload none H220 [v325a]) ⟨fun v326 =>
 J179 v326 H220⟩) H220 ⟨fun v326a H221 =>
 @guardJ (asNB v319) (fun J180=>@bindO (xbin .add 0 v324a v326a) ⟨fun v327 =>
 J180 v327 H221⟩) H221 ⟨fun v327a H222 =>
 @guardJ (asNB v319) (fun J181=>@bindO (xbin .neq 0 v322a v327a) ⟨fun v328 =>
 J181 v328 H222⟩) H222 ⟨fun v328a H223 =>
 @guardJ (asB v302) (fun J182=>@pickK v319 (.bool true) v328a ⟨fun v329 =>
 J182 v329 H223⟩) H223 ⟨fun v329a H224 =>
 @guardJ (asNB v297) (fun J183=>@pickK v302 v329a (.bool false) ⟨fun v330 =>
 J183 v330 H224⟩) H224 ⟨fun v330a H225 =>
 @pickK v297 (.bool true) v330a ⟨fun v331 =>
 @guardJ (asNB v331) (fun J184=>@bindO (xpure (.fld 3) [H190]) ⟨fun v333 =>
 J184 v333 H225⟩) H225 ⟨fun v333a H226 =>
 @guardJ (asNB v331) (fun J185=>@bindO (xload none H226 [v333a]) ⟨fun v334 =>
 J185 v334 H226⟩) H226 ⟨fun v334a H227 =>
 @guardJ (asNB v331) (fun J186=>@bindO (xbin .eql 0 v334a (nv 0)) ⟨fun v335 =>
 J186 v335 H227⟩) H227 ⟨fun v335a H228 =>
 @guardJ (asNB v331) (fun J187=>@bindO (xpure (.fld 0) [H5]) ⟨fun v336 =>
 J187 v336 H228⟩) H228 ⟨fun v336a H229 =>
 @guardJ (asNB v331) (fun J188=>@bindO (xload none H229 [v336a]) ⟨fun v337 =>
 J188 v337 H229⟩) H229 ⟨fun v337a H230 =>
 @guardJ (asNB v331) (fun J189=>@bindO (xpure (.fld 0) [H8]) ⟨fun v338 =>
 J189 v338 H230⟩) H230 ⟨fun v338a H231 =>
 @guardJ (asNB v331) (fun J190=>@bindO (xload none H231 [v338a]) ⟨fun v339 =>
 J190 v339 H231⟩) H231 ⟨fun v339a H232 =>
 @guardJ (asNB v331) (fun J191=>@bindO (xbin .eql 0 v337a v339a) ⟨fun v340 =>
 J191 v340 H232⟩) H232 ⟨fun v340a H233 =>
 @guardJ (asNB v331) (fun J192=>J192 v340a H233) H233 ⟨fun v341 H234 =>
 @guardJ (asB v341) (fun J193=>@bindO (xpure (.fld 1) [H5]) ⟨fun v342 =>
 J193 v342 H234⟩) H234 ⟨fun v342a H235 =>
 @guardJ (asB v341) (fun J194=>@bindO (xload none H235 [v342a]) ⟨fun v343 =>
 J194 v343 H235⟩) H235 ⟨fun v343a H236 =>
 @guardJ (asB v341) (fun J195=>@bindO (xpure (.fld 1) [H8]) ⟨fun v344 =>
 J195 v344 H236⟩) H236 ⟨fun v344a H237 =>
 @guardJ (asB v341) (fun J196=>@bindO (xload none H237 [v344a]) ⟨fun v345 =>
 J196 v345 H237⟩) H237 ⟨fun v345a H238 =>
 @guardJ (asB v341) (fun J197=>@bindO (xbin .eql 0 v343a v345a) ⟨fun v346 =>
 J197 v346 H238⟩) H238 ⟨fun v346a H239 =>
 @guardJ (asNB v331) (fun J198=>@pickK v341 v346a (.bool false) ⟨fun v347 =>
 J198 v347 H239⟩) H239 ⟨fun v347a H240 =>
 @guardJ (asNB v331) (fun J199=>@bindO (xbin .neq 1 v335a v347a) ⟨fun v348 =>
 J199 v348 H240⟩) H240 ⟨fun v348a H241 =>
 @pickK v331 (.bool true) v348a ⟨fun v349 =>
 @guardJ (asNB v349) (fun J200=>@bindO (xpure (.fld 3) [H190]) ⟨fun v351 =>
 J200 v351 H241⟩) H241 ⟨fun v351a H242 =>
 @guardJ (asNB v349) (fun J201=>@bindO (xload none H242 [v351a]) ⟨fun v352 =>
 J201 v352 H242⟩) H242 ⟨fun v352a H243 =>
 @guardJ (asNB v349) (fun J202=>@bindO (xbin .eql 0 v352a (nv 0)) ⟨fun v353 =>
 J202 v353 H243⟩) H243 ⟨fun v353a H244 =>
 @guardJ (asNB v349) (fun J203=>J203 v353a H244) H244 ⟨fun v354 H245 =>
 @guardJ (asB v354) (fun J204=>@bindO (xpure (.fld 0) [H190]) ⟨fun v355 =>
 J204 v355 H245⟩) H245 ⟨fun v355a H246 =>
 @guardJ (asB v354) (fun J205=>@bindO (xload (some 3) H246 [v355a]) ⟨fun v356 =>
 J205 v356 H246⟩) H246 ⟨fun v356a H247 =>
 @guardJ (asB v354) (fun J206=>@cG 38 [v356a] H247 ⟨fun v357 H248 =>
 J206 v357 H248⟩) H247 ⟨fun v357a H249 =>
 @guardJ (asB v354) (fun J207=>@bindO (eun .not v357a) ⟨fun v358 =>
 J207 v358 H249⟩) H249 ⟨fun v358a H250 =>
 @guardJ (asB v354) (fun J208=>J208 v358a H250) H250 ⟨fun v359 H251 =>
 @guardJ (asNB v359) (fun J209=>@bindO (xpure (.fld 0) [H190]) ⟨fun v360 =>
 J209 v360 H251⟩) H251 ⟨fun v360a H252 =>
 @guardJ (asNB v359) (fun J210=>@bindO (xpure (.fld 2) [v360a]) ⟨fun v361 =>
 J210 v361 H252⟩) H252 ⟨fun v361a H253 =>
 @guardJ (asNB v359) (fun J211=>@bindO (xload none H253 [v361a]) ⟨fun v362 =>
 J211 v362 H253⟩) H253 ⟨fun v362a H254 =>
 @guardJ (asNB v359) (fun J212=>@bindO (xpure .lenS [v362a]) ⟨fun v363 =>
 J212 v363 H254⟩) H254 ⟨fun v363a H255 =>
 @guardJ (asNB v359) (fun J213=>J213 v36 H255) H255 ⟨fun v364 H256 =>
 @guardJ (asNB v359) (fun J214=>@bindO (xpure (.fld 2) [H8]) ⟨fun v365 =>
 J214 v365 H256⟩) H256 ⟨fun v365a H257 =>
 @guardJ (asNB v359) (fun J215=>@bindO (xload none H257 [v365a]) ⟨fun v366 =>
 J215 v366 H257⟩) H257 ⟨fun v366a H258 =>
 @guardJ (asNB v359) (fun J216=>@bindO (xpure .lenS [v366a]) ⟨fun v367 =>
 J216 v367 H258⟩) H258 ⟨fun v367a H259 =>
 @guardJ (asNB v359) (fun J217=>@bindO (xbin .add 0 v364 v367a) ⟨fun v368 =>
 J217 v368 H259⟩) H259 ⟨fun v368a H260 =>
 @guardJ (asNB v359) (fun J218=>@bindO (xbin .neq 0 v363a v368a) ⟨fun v369 =>
 J218 v369 H260⟩) H260 ⟨fun v369a H261 =>
 @guardJ (asB v354) (fun J219=>@pickK v359 (.bool true) v369a ⟨fun v370 =>
 J219 v370 H261⟩) H261 ⟨fun v370a H262 =>
 @guardJ (asB v354) (fun J220=>J220 v370a H262) H262 ⟨fun v371 H263 =>
 @guardJ (asNB v371) (fun J221=>@bindO (xpure (.fld 0) [H190]) ⟨fun v372 =>
 J221 v372 H263⟩) H263 ⟨fun v372a H264 =>
 @guardJ (asNB v371) (fun J222=>@bindO (xpure (.fld 1) [v372a]) ⟨fun v373 =>
 J222 v373 H264⟩) H264 ⟨fun v373a H265 =>
 @guardJ (asNB v371) (fun J223=>@bindO (xload none H265 [v373a]) ⟨fun v374 =>
 J223 v374 H265⟩) H265 ⟨fun v374a H266 =>
 @guardJ (asNB v371) (fun J224=>@bindO (xpure (.fld 1) [H5]) ⟨fun v375 =>
 J224 v375 H266⟩) H266 ⟨fun v375a H267 =>
 @guardJ (asNB v371) (fun J225=>@bindO (xload none H267 [v375a]) ⟨fun v376 =>
 J225 v376 H267⟩) H267 ⟨fun v376a H268 =>
 @guardJ (asNB v371) (fun J226=>@bindO (xbin .mul 0 (nv 2) v376a) ⟨fun v377 =>
 J226 v377 H268⟩) H268 ⟨fun v377a H269 =>
 @guardJ (asNB v371) (fun J227=>@bindO (xbin .neq 0 v374a v377a) ⟨fun v378 =>
 J227 v378 H269⟩) H269 ⟨fun v378a H270 =>
 @guardJ (asB v354) (fun J228=>@pickK v371 (.bool true) v378a ⟨fun v379 =>
 J228 v379 H270⟩) H270 ⟨fun v379a H271 =>
 @guardJ (asNB v349) (fun J229=>@pickK v354 v379a (.bool false) ⟨fun v380 =>
 J229 v380 H271⟩) H271 ⟨fun v380a H272 =>
 @pickK v349 (.bool true) v380a ⟨fun v381 =>
 @condK v381 ⟨fun q=>if q=true then R (.bool false) H272 else
 @bindO (xload (some 4) H272 [H]) ⟨fun v382 =>
 @cG 32 [v382] H272 ⟨fun v383 H273 =>
 @letH (H273++[.cells [nv 0,nv 0,.slice none 0 0] 29 none false]) ⟨fun H274 =>
 @bindP (xact (.st 3) H274 [H273,v383]) ⟨fun _v H275 =>
 @bindO (xload (some 3) H275 [H273]) ⟨fun v384 =>
 @bindO (xload (some 4) H275 [H1]) ⟨fun v385 =>
 @letH (H275++[.cells [nv 0,nv 0,.slice none 0 0,nv 0] 37 none false]) ⟨fun H276 =>
 @cG 33 [v385] H276 ⟨fun v386 H277 =>
 (chkX [0] (⟨0,(some 3),[H273],v384⟩ :: []) H277∧@cG 26 [v384,v386] H277 ⟨fun v387 H278 =>
 @bindP (xact (.st 4) H278 [H275,v387]) ⟨fun _v H279 =>
 @guardJ (asB v27) (fun J230=>@bindO (xpure (.fld 3) [H275]) ⟨fun v390 =>
 J230 v390 H279⟩) H279 ⟨fun v390a H280 =>
 @guardJ (asB v27) (fun J231=>@bindO (xload none H280 [v390a]) ⟨fun v391 =>
 J231 v391 H280⟩) H280 ⟨fun v391a H281 =>
 @guardJ (asB v27) (fun J232=>@bindO (xbin .eql 0 v391a (nv 0)) ⟨fun v392 =>
 J232 v392 H281⟩) H281 ⟨fun v392a H282 =>
 @pickK v27 v392a (.bool false) ⟨fun v393 =>
 @guardJ (asB v393) (fun J233=>@bindO (xpure (.fld 0) [H275]) ⟨fun v395 =>
 J233 v395 H282⟩) H282 ⟨fun v395a H283 =>
 @guardJ (asB v393) (fun J234=>@bindO (xload (some 3) H283 [v395a]) ⟨fun v396 =>
 J234 v396 H283⟩) H283 ⟨fun v396a H284 =>
 @guardJ (asB v393) (fun J235=>@cG 38 [v396a] H284 ⟨fun v397 H285 =>
 J235 v397 H285⟩) H284 ⟨fun v397a H286 =>
 @pickK v393 v397a (.bool false) ⟨fun v398 =>
 @guardJ (asB v398) (fun J236=>@bindO (xpure (.fld 0) [H275]) ⟨fun v400 =>
 J236 v400 H286⟩) H286 ⟨fun v400a H287 =>
 @guardJ (asB v398) (fun J237=>@bindO (xpure (.fld 0) [v400a]) ⟨fun v401 =>
 J237 v401 H287⟩) H287 ⟨fun v401a H288 =>
 @guardJ (asB v398) (fun J238=>@bindO (xload none H288 [v401a]) ⟨fun v402 =>
 J238 v402 H288⟩) H288 ⟨fun v402a H289 =>
 @guardJ (asB v398) (fun J239=>@bindO (xbin .eql 0 v402a (nv 2)) ⟨fun v403 =>
 J239 v403 H289⟩) H289 ⟨fun v403a H290 =>
 @pickK v398 v403a (.bool false) ⟨fun v404 =>
 @guardJ (asB v404) (fun J240=>@bindO (xpure (.fld 0) [H275]) ⟨fun v406 =>
 J240 v406 H290⟩) H290 ⟨fun v406a H291 =>
 @guardJ (asB v404) (fun J241=>@bindO (xpure (.fld 2) [v406a]) ⟨fun v407 =>
 J241 v407 H291⟩) H291 ⟨fun v407a H292 =>
 @guardJ (asB v404) (fun J242=>@bindO (xload none H292 [v407a]) ⟨fun v408 =>
 J242 v408 H292⟩) H292 ⟨fun v408a H293 =>
 @guardJ (asB v404) (fun J243=>@bindO (xpure .lenS [v408a]) ⟨fun v409 =>
 J243 v409 H293⟩) H293 ⟨fun v409a H294 =>
 @guardJ (asB v404) (fun J244=>@bindO (xpure (.fld 2) [H273]) ⟨fun v410 =>
 J244 v410 H294⟩) H294 ⟨fun v410a H295 =>
 @guardJ (asB v404) (fun J245=>@bindO (xload none H295 [v410a]) ⟨fun v411 =>
 J245 v411 H295⟩) H295 ⟨fun v411a H296 =>
 @guardJ (asB v404) (fun J246=>@bindO (xpure .lenS [v411a]) ⟨fun v412 =>
 J246 v412 H296⟩) H296 ⟨fun v412a H297 =>
 @guardJ (asB v404) (fun J247=>@bindO (xbin .mul 0 (nv 2) v412a) ⟨fun v413 =>
 J247 v413 H297⟩) H297 ⟨fun v413a H298 =>
 @guardJ (asB v404) (fun J248=>@bindO (xbin .eql 0 v409a v413a) ⟨fun v414 =>
 J248 v414 H298⟩) H298 ⟨fun v414a H299 =>
 @pickK v404 v414a (.bool false) ⟨fun v415 =>
 R v415 H299⟩⟩⟩⟩⟩⟩⟩⟩⟩⟩⟩⟩⟩⟩⟩⟩⟩⟩⟩⟩⟩⟩⟩⟩⟩)⟩⟩⟩⟩⟩⟩⟩⟩⟩⟩⟩⟩⟩⟩⟩⟩⟩⟩⟩⟩⟩⟩⟩⟩⟩⟩⟩⟩⟩⟩⟩⟩⟩⟩⟩⟩⟩⟩⟩⟩⟩⟩⟩⟩⟩⟩⟩⟩⟩⟩⟩⟩⟩⟩⟩⟩⟩⟩⟩⟩⟩⟩⟩⟩⟩⟩⟩⟩⟩⟩⟩⟩⟩⟩⟩⟩⟩⟩⟩⟩⟩⟩⟩⟩⟩⟩⟩⟩⟩⟩⟩⟩⟩⟩⟩⟩⟩⟩⟩⟩⟩⟩⟩⟩⟩⟩⟩⟩⟩⟩⟩⟩⟩⟩⟩⟩⟩⟩⟩⟩⟩⟩⟩⟩⟩⟩⟩⟩⟩⟩⟩⟩⟩⟩⟩⟩⟩⟩⟩⟩⟩⟩⟩⟩⟩⟩⟩⟩⟩⟩⟩⟩⟩⟩⟩⟩⟩⟩⟩⟩⟩⟩)⟩)⟩⟩⟩⟩⟩⟩⟩⟩⟩⟩⟩⟩⟩⟩⟩⟩⟩⟩⟩⟩⟩⟩⟩⟩⟩⟩⟩
theorem g6_of {x0 y1 z2:Value} {H:AH} {R:Value→AH→Prop} (h:g6 x0 y1 z2 H R):FN Tryz.prog 6 [x0,y1,z2] H R:=
  FN.of_XM (ms:=[(14,[]),(21,[15,16,17]),(30,[]),(35,[20,21])]) mixed (cast (by kernel_rfl) h)
end Go.Sim
